/- The law FnCodes: at every input the call answers true (this text: contracts on its way, by a program of this session's; no condition of ours). -/
import Derived.Test.YtnonijganceneaaDoorQFnCodesx0
import Derived.Test.YtnonijganceneaaDoorQFnCodesx1
import Derived.Test.YtnonijganceneaaDoorQFnCodesx12
namespace Go.Proofs.YtnonijganceneaaDoor.QFnCodes
open Go.RowKit Go.Proofs.YtnonijganceneaaDoorW.PrintWords Go.Proofs.YtnonijganceneaaDoorW.PrintLast Go.Proofs.YtnonijganceneaaDoorW.PrintMore
attribute [local go_sem] max2_int min2_int max_two min_two max_three min_three max_four min_four   -- for this text's walks alone
set_option linter.unusedVariables false
set_option linter.unusedSimpArgs false

/-! ### impl_Encode: function 60 (by hand) -/
def impl_Encode.f (a0 : Int) (a1 : ByteArray) : Option (ByteArray) := if (a1.size : Int) > 65536 then (some (⟨#[]⟩ : ByteArray)) else if 1 ≤ a0 ∧ a0 ≤ 5 then ((W_impl_points.f a1).bind fun l => if a0 = 1 then ((W_impl_write.f l).bind fun s => (impl_short.f s)) else if l.length ≤ 1000000 ∧ (∀ p ∈ l, YtnonijganceneaaDoorPts.isP p) then impl_short.f (strOfNums (YtnonijganceneaaDoorPts.encsF a0 l)) else none) else (some (⟨#[]⟩ : ByteArray))
theorem impl_Encode.snoc (f : Int) (l : List Int) (i : Nat) (hi : i < l.length) : YtnonijganceneaaDoorPts.encsF f (l.take (i + 1)) = YtnonijganceneaaDoorPts.encsF f (l.take i) ++ YtnonijganceneaaDoorPts.encF f (rd l (i : Int)) := by
  have e : rd l (i : Int) = l[i] := by simp [rd, List.getD, hi]
  unfold YtnonijganceneaaDoorPts.encsF
  rw [e, List.take_succ_eq_append_getElem hi, List.flatMap_append, List.flatMap_singleton]
theorem impl_Encode.atP {l : List Int} (h : ∀ p ∈ l, YtnonijganceneaaDoorPts.isP p) (i : Nat) (hi : i < l.length) : YtnonijganceneaaDoorPts.isP (rd l (i : Int)) := by
  have e : rd l (i : Int) = l[i] := by simp [rd, List.getD, hi]
  rw [e]; exact h _ (List.getElem_mem _)
theorem impl_Encode.long_ (a1 : ByteArray) (b : Bool) (hb : decide ((a1.size : Int) > 65536) = b) (w : World) : Calls Tryd.prog 98 #[.string a1] w fun e w' => e = .returned (.bool b) ∧ Drawn0 w w' := impl_long.calls a1 b w (by unfold impl_long.f; rw [hb])
theorem impl_Encode.isForm_ (f : Int) (b : Bool) (hb : decide (1 ≤ f ∧ f ≤ 5) = b) (w : World) : Calls Tryd.prog 118 #[.int .i64 f] w fun e w' => e = .returned (.bool b) ∧ Drawn0 w w' := impl_isForm.calls f b w (by
  unfold impl_isForm.f impl_in.f
  subst hb
  by_cases c : f ≥ 1
  · rw [if_pos c]
    simp only [Option.bind_some, Option.some.injEq]
    exact decide_eq_decide.2 ⟨fun z => ⟨c, z⟩, fun z => z.2⟩
  · rw [if_neg c]
    simp only [Option.bind_some, Option.some.injEq]
    exact (decide_eq_false (fun z => c z.1)).symm)
set_option maxHeartbeats 1000000 in
theorem impl_Encode.orderB (f : Int) (w : World) (h : f = 2 ∨ f = 4) : Calls Tryd.prog 140 #[.int .i64 f] w fun e w' => e = .returned (.iface 184 (.agg #[])) ∧ w = w' := by
  rcases h with rfl | rfl
  · go_enter Tryd.func140, Tryd.ntmps140
    go_wp2
    go_ret
    exact ⟨rfl, rfl⟩
  · go_enter Tryd.func140, Tryd.ntmps140
    go_wp2
    go_ret
    exact ⟨rfl, rfl⟩
set_option maxHeartbeats 1000000 in
theorem impl_Encode.orderL (f : Int) (w : World) (h : f = 3 ∨ f = 5) : Calls Tryd.prog 140 #[.int .i64 f] w fun e w' => e = .returned (.iface 185 (.agg #[])) ∧ w = w' := by
  rcases h with rfl | rfl
  · go_enter Tryd.func140, Tryd.ntmps140
    go_wp2
    go_ret
    exact ⟨rfl, rfl⟩
  · go_enter Tryd.func140, Tryd.ntmps140
    go_wp2
    go_ret
    exact ⟨rfl, rfl⟩
theorem impl_Encode.appB16 (B : Nat) (sv : Value) (xs : List Int) (v : Int) (W : World) (h0 : 0 ≤ v) (h1 : v < 65536) (hR : Kd.R (Kd.int .u8) 5 W B (fun _ => True) sv xs) (hB : B ≤ W.heap.size) (hl : xs.length ≤ 1099511627776) :
    Calls Tryd.prog 263 #[.agg #[], sv, .int .u16 v] W fun e w' => ∃ v', e = .returned v' ∧ Kd.R (Kd.int .u8) 5 w' B (fun _ => True) v' (xs ++ YtnonijganceneaaDoorPts.unit 2 false v) ∧ Below B W w' := by
  obtain ⟨n, rfl⟩ := Int.eq_ofNat_of_zero_le h0
  refine (Tryd.binary_BE_AppendUint16 B xs.length n (by omega) sv (encs (Value.int .u8) xs) W (Kd.own_of_R hR) hB (by omega)).mono ?_
  rintro e w' ⟨v', rfl, ho, hb⟩
  refine ⟨v', rfl, Kd.R_of_own ?_ (fun _ _ => trivial), hb⟩
  have e1 : encs (Value.int .u8) (xs ++ YtnonijganceneaaDoorPts.unit 2 false (n : Int)) = encs (Value.int .u8) xs ++ Lib.byteCells (Lib.beBytes 2 n) := by
    unfold encs
    rw [List.map_append]
    congr 1
    simp [Lib.byteCells, Lib.leBytes, Lib.beBytes, YtnonijganceneaaDoorPts.unit, Lib.toUInt8_mod]
    try omega
  rw [e1]
  have e2 : (xs ++ YtnonijganceneaaDoorPts.unit 2 false (n : Int)).length = xs.length + 2 := by rw [List.length_append]; rfl
  rw [e2]
  exact ho
theorem impl_Encode.appL16 (B : Nat) (sv : Value) (xs : List Int) (v : Int) (W : World) (h0 : 0 ≤ v) (h1 : v < 65536) (hR : Kd.R (Kd.int .u8) 5 W B (fun _ => True) sv xs) (hB : B ≤ W.heap.size) (hl : xs.length ≤ 1099511627776) :
    Calls Tryd.prog 268 #[.agg #[], sv, .int .u16 v] W fun e w' => ∃ v', e = .returned v' ∧ Kd.R (Kd.int .u8) 5 w' B (fun _ => True) v' (xs ++ YtnonijganceneaaDoorPts.unit 2 true v) ∧ Below B W w' := by
  obtain ⟨n, rfl⟩ := Int.eq_ofNat_of_zero_le h0
  refine (Tryd.binary_LE_AppendUint16 B xs.length n (by omega) sv (encs (Value.int .u8) xs) W (Kd.own_of_R hR) hB (by omega)).mono ?_
  rintro e w' ⟨v', rfl, ho, hb⟩
  refine ⟨v', rfl, Kd.R_of_own ?_ (fun _ _ => trivial), hb⟩
  have e1 : encs (Value.int .u8) (xs ++ YtnonijganceneaaDoorPts.unit 2 true (n : Int)) = encs (Value.int .u8) xs ++ Lib.byteCells (Lib.leBytes 2 n) := by
    unfold encs
    rw [List.map_append]
    congr 1
    simp [Lib.byteCells, Lib.leBytes, Lib.beBytes, YtnonijganceneaaDoorPts.unit, Lib.toUInt8_mod]
    try omega
  rw [e1]
  have e2 : (xs ++ YtnonijganceneaaDoorPts.unit 2 true (n : Int)).length = xs.length + 2 := by rw [List.length_append]; rfl
  rw [e2]
  exact ho
theorem impl_Encode.appB32 (B : Nat) (sv : Value) (xs : List Int) (v : Int) (W : World) (h0 : 0 ≤ v) (h1 : v < 4294967296) (hR : Kd.R (Kd.int .u8) 5 W B (fun _ => True) sv xs) (hB : B ≤ W.heap.size) (hl : xs.length ≤ 1099511627776) :
    Calls Tryd.prog 264 #[.agg #[], sv, .int .u32 v] W fun e w' => ∃ v', e = .returned v' ∧ Kd.R (Kd.int .u8) 5 w' B (fun _ => True) v' (xs ++ YtnonijganceneaaDoorPts.unit 4 false v) ∧ Below B W w' := by
  obtain ⟨n, rfl⟩ := Int.eq_ofNat_of_zero_le h0
  refine (Tryd.binary_BE_AppendUint32 B xs.length n (by omega) sv (encs (Value.int .u8) xs) W (Kd.own_of_R hR) hB (by omega)).mono ?_
  rintro e w' ⟨v', rfl, ho, hb⟩
  refine ⟨v', rfl, Kd.R_of_own ?_ (fun _ _ => trivial), hb⟩
  have e1 : encs (Value.int .u8) (xs ++ YtnonijganceneaaDoorPts.unit 4 false (n : Int)) = encs (Value.int .u8) xs ++ Lib.byteCells (Lib.beBytes 4 n) := by
    unfold encs
    rw [List.map_append]
    congr 1
    simp [Lib.byteCells, Lib.leBytes, Lib.beBytes, YtnonijganceneaaDoorPts.unit, Lib.toUInt8_mod]
    try omega
  rw [e1]
  have e2 : (xs ++ YtnonijganceneaaDoorPts.unit 4 false (n : Int)).length = xs.length + 4 := by rw [List.length_append]; rfl
  rw [e2]
  exact ho
theorem impl_Encode.appL32 (B : Nat) (sv : Value) (xs : List Int) (v : Int) (W : World) (h0 : 0 ≤ v) (h1 : v < 4294967296) (hR : Kd.R (Kd.int .u8) 5 W B (fun _ => True) sv xs) (hB : B ≤ W.heap.size) (hl : xs.length ≤ 1099511627776) :
    Calls Tryd.prog 269 #[.agg #[], sv, .int .u32 v] W fun e w' => ∃ v', e = .returned v' ∧ Kd.R (Kd.int .u8) 5 w' B (fun _ => True) v' (xs ++ YtnonijganceneaaDoorPts.unit 4 true v) ∧ Below B W w' := by
  obtain ⟨n, rfl⟩ := Int.eq_ofNat_of_zero_le h0
  refine (Tryd.binary_LE_AppendUint32 B xs.length n (by omega) sv (encs (Value.int .u8) xs) W (Kd.own_of_R hR) hB (by omega)).mono ?_
  rintro e w' ⟨v', rfl, ho, hb⟩
  refine ⟨v', rfl, Kd.R_of_own ?_ (fun _ _ => trivial), hb⟩
  have e1 : encs (Value.int .u8) (xs ++ YtnonijganceneaaDoorPts.unit 4 true (n : Int)) = encs (Value.int .u8) xs ++ Lib.byteCells (Lib.leBytes 4 n) := by
    unfold encs
    rw [List.map_append]
    congr 1
    simp [Lib.byteCells, Lib.leBytes, Lib.beBytes, YtnonijganceneaaDoorPts.unit, Lib.toUInt8_mod]
    try omega
  rw [e1]
  have e2 : (xs ++ YtnonijganceneaaDoorPts.unit 4 true (n : Int)).length = xs.length + 4 := by rw [List.length_append]; rfl
  rw [e2]
  exact ho
set_option maxHeartbeats 8000000 in
set_option maxRecDepth 100000 in
theorem impl_Encode.walk2 (a1 : ByteArray) (l : List Int) (r : ByteArray) (w : World) (hs : decide ((a1.size : Int) > 65536) = false) (hp : W_impl_points.f a1 = some l) (hl : l.length ≤ 1000000) (hq : ∀ p ∈ l, YtnonijganceneaaDoorPts.isP p) (hr : impl_short.f (strOfNums (YtnonijganceneaaDoorPts.encsF 2 l)) = some r) (hG : GT w) :
    Calls Tryd.prog 60 #[.int .i64 2, .string a1] w fun e w' => e = .returned (.string r) ∧ Below w.heap.size w w' := by
  have HS := Aside0.mk hs
  have HP := Aside0.mk hp
  have HQ := Aside0.mk hq
  have HG := Aside0.mk hG
  have HR0 := Aside0.mk hr
  clear hs hp hq hG hr
  have hm : ∀ W : World, (method 341 184 (.agg #[]) "AppendUint16").run Tryd.prog W = .ok (263, .agg #[]) W := fun W => by kernel_rfl
  go_enter Tryd.func60, Tryd.ntmps60
  go_wp2_with (first
    | (go_at_call 98; ((with_reducible refine (impl_Encode.long_ a1 false HS.out _).mono ?_); rintro e w1 ⟨rfl, ⟨nd, rfl⟩⟩))
    | (go_at_call 118; ((with_reducible refine (impl_Encode.isForm_ _ true (by decide) _).mono ?_); rintro e w1 ⟨rfl, ⟨nd, rfl⟩⟩))
    | (go_at_call 140; ((with_reducible refine (impl_Encode.orderB _ _ (.inl rfl)).mono ?_); rintro e w1 ⟨rfl, rfl⟩))
    | (go_at_call 103; ((with_reducible refine (W_impl_points.calls a1 l _ HP.out (GT.below HG.out (by repeat (first | exact Below.refl _ _ | apply pw_below_drewN | apply below_drew1)))).mono ?_); rintro e w2 ⟨v2, rfl, ho2, hb2⟩; obtain ⟨A2, c2, rfl⟩ := Kd.R_slice ho2; have R2 := Aside0.mk (Kd.R_reads' ho2); have B2 : Aside0 (Below w.heap.size w w2) := Aside0.mk (below_step (by repeat (first | exact Below.refl _ _ | apply pw_below_drewN | apply below_drew1)) hb2); clear ho2 hb2)))
  have hB0 : Aside0 (Kd.R (Kd.int .u8) 5 w2 w2.heap.size (fun _ => True) (.slice none 0 0) ([] : List Int)) := ⟨Kd.R_nil _ _ _ _ _⟩
  go_loopw [5, 28] (fun v5 v28 wr => ∃ (i : Nat), i ≤ l.length ∧ v28 = .int .i64 i ∧ Aside0 (Kd.R (Kd.int .u8) 5 wr w2.heap.size (fun _ => True) v5 (YtnonijganceneaaDoorPts.encsF 2 (l.take i))) ∧ Aside0 (Below w2.heap.size w2 wr)) (fun _ v28 _ => l.length - (intOf v28).toNat)
  case atStart => exact ⟨0, Nat.zero_le _, rfl, hB0, ⟨Below.refl _ _⟩⟩
  case round =>
    obtain ⟨i, hi, rfl, HR, HB⟩ := hrel
    have hlen := YtnonijganceneaaDoorPts.encsF_length 2 (l.take i)
    have hlt2 : (l.take i).length ≤ l.length := List.length_take_le' _ _
    have HL := Aside0.mk (show (YtnonijganceneaaDoorPts.encsF 2 (l.take i)).length ≤ 100000000 by omega)
    clear hlen hlt2 hB0
    by_cases hlt : i < l.length
    · obtain ⟨A5, c5, hv5⟩ := Kd.R_slice HR.out
      subst hv5
      have i1 : (i : Int) < (l.length : Int) := by omega
      have i0 : (0 : Int) ≤ (i : Int) := by omega
      obtain ⟨ad, e1, hx0⟩ := Kd.at_int R2.out.2.2 (i : Int) i0 i1
      subst e1
      have hx := (HB.out.cell (World.block_lt_of_cell? w2 _ hx0)).trans hx0
      rw [Int.toNat_natCast] at hx
      have hpp := impl_Encode.atP HQ.out i hlt
      unfold YtnonijganceneaaDoorPts.isP at hpp
      obtain ⟨p0, p1, _⟩ := hpp
      have q2 : decide ((i : Int) < (l.length : Int)) = true := decide_eq_true i1
      have HN := Aside0.mk (impl_Encode.snoc 2 l i hlt)
      obtain ⟨p, hp⟩ : ∃ p, rd l (i : Int) = p := ⟨_, rfl⟩
      rw [hp] at hx p0 p1 HN
      clear hx0 hp
      have hn : ∀ W : World, (nilAhead 341 184 (.agg #[]) "AppendUint16").run Tryd.prog W = .ok (some false) W := fun W => by kernel_rfl
      by_cases big : 65535 < p
      · have he : YtnonijganceneaaDoorPts.encF 2 p = YtnonijganceneaaDoorPts.unit 2 false (55296 + (p - 65536) / 1024) ++ YtnonijganceneaaDoorPts.unit 2 false (56320 + (p - 65536) % 1024) := by
          unfold YtnonijganceneaaDoorPts.encF
          rw [if_neg (by decide), if_neg (by decide), if_neg (by omega)]
          rfl
        rw [he] at HN
        clear he
        go_wp2
        obtain ⟨x, hd, hd2, hd0, hd1⟩ : ∃ x, Int.tdiv (p - 65536) 1024 = x ∧ (p - 65536) / 1024 = x ∧ 0 ≤ x ∧ x < 1024 := ⟨_, rfl, by rw [Int.tdiv_eq_ediv_of_nonneg (by omega)], by rw [Int.tdiv_eq_ediv_of_nonneg (by omega)]; omega, by rw [Int.tdiv_eq_ediv_of_nonneg (by omega)]; omega⟩
        obtain ⟨y, hm, hm2, hm0, hm1⟩ : ∃ x, Int.tmod (p - 65536) 1024 = x ∧ (p - 65536) % 1024 = x ∧ 0 ≤ x ∧ x < 1024 := ⟨_, rfl, by rw [Int.tmod_eq_emod_of_nonneg (by omega)], by rw [Int.tmod_eq_emod_of_nonneg (by omega)]; omega, by rw [Int.tmod_eq_emod_of_nonneg (by omega)]; omega⟩
        rw [hd2, hm2] at HN
        have k1 : IntKind.i64.wrap x = x := by rw [IntKind.wrap_i64]; omega
        have k2 : IntKind.i64.wrap (55296 + x) = 55296 + x := by rw [IntKind.wrap_i64]; omega
        have k3 : IntKind.u16.wrap (55296 + x) = 55296 + x := by simp [IntKind.wrap, IntKind.bits, IntKind.signed]; omega
        have k4 : IntKind.i64.wrap y = y := by rw [IntKind.wrap_i64]; omega
        have k5 : IntKind.i64.wrap (56320 + y) = 56320 + y := by rw [IntKind.wrap_i64]; omega
        have k6 : IntKind.u16.wrap (56320 + y) = 56320 + y := by simp [IntKind.wrap, IntKind.bits, IntKind.signed]; omega
        have HX1 := Aside0.mk (show 0 ≤ 55296 + x ∧ 55296 + x < 65536 by omega)
        have HX2 := Aside0.mk (show 0 ≤ 56320 + y ∧ 56320 + y < 65536 by omega)
        have HZ : Aside0 (w2.heap.size ≤ (World.drew wr).heap.size) := ⟨HB.out.size⟩
        clear hd2 hm2
        go_region_with (first
          | (go_at_call 263; ((with_reducible refine (impl_Encode.appB16 w2.heap.size (.slice A5 (YtnonijganceneaaDoorPts.encsF 2 (List.take i l)).length c5) (YtnonijganceneaaDoorPts.encsF 2 (List.take i l)) (55296 + x) _ HX1.out.1 HX1.out.2 (Kd.R_drew HR.out) HZ.out (Nat.le_trans HL.out (by decide))).mono ?_); rintro e w5 ⟨v5, rfl, ho5, hb5⟩))
          | (go_at_call 263; ((with_reducible refine (impl_Encode.appB16 w2.heap.size _ _ (56320 + y) _ HX2.out.1 HX2.out.2 ho5 (Nat.le_trans HZ.out hb5.size) (by have := HL.out; rw [List.length_append]; have : (YtnonijganceneaaDoorPts.unit 2 false (55296 + x)).length = 2 := rfl; omega)).mono ?_); rintro e w6 ⟨v6, rfl, ho6, hb6⟩)))
        all_goals
          have O6 := Aside0.mk ho6
          have B6 := Aside0.mk ((below_drew HB.out).trans (hb5.trans hb6))
          clear ho6 hb6 ho5 hb5 k1 k2 k3 k4 k5 k6 hd hm HX1 HX2
          go_wp2
          go_roundw
          case rel =>
            refine ⟨i + 1, by omega, by go_num, ⟨?_⟩, ⟨B6.out⟩⟩
            rw [HN.out, ← List.append_assoc]
            exact O6.out
          case measure => simp [intOf]; omega
      · have he : YtnonijganceneaaDoorPts.encF 2 p = YtnonijganceneaaDoorPts.unit 2 false p := by
          unfold YtnonijganceneaaDoorPts.encF
          rw [if_neg (by decide), if_neg (by decide), if_pos (by omega)]
          rfl
        rw [he] at HN
        clear he
        go_wp2_with (go_at_call 263; ((with_reducible refine (impl_Encode.appB16 w2.heap.size _ _ _ _ (by omega) (by omega) HR.out HB.out.size (by have := HL.out; omega)).mono ?_); rintro e w5 ⟨v5, rfl, ho5, hb5⟩; have O5 := Aside0.mk ho5; have B5 := Aside0.mk hb5; clear ho5 hb5))
        go_roundw
        case rel =>
          refine ⟨i + 1, by omega, by go_num, ⟨?_⟩, ⟨HB.out.trans B5.out⟩⟩
          rw [HN.out]
          exact O5.out
        case measure => simp [intOf]; omega
    · obtain rfl : i = l.length := by omega
      have hO := HR.out
      rw [List.take_length] at hO
      obtain ⟨A5, c5, hv5⟩ := Kd.R_slice hO
      subst hv5
      have hcv := own_string (P := Tryd.prog) Tryd.underlying22 Tryd.underlying5 Tryd.underlying9 (Kd.own_of_R hO)
      have HO := Aside0.mk hO
      clear hO HR hlt
      go_wp2_with (go_at_call 100; ((with_reducible refine (impl_short.calls _ r _ HR0.out).mono ?_); rintro e w4 ⟨rfl, ⟨nd4, rfl⟩⟩))
      go_ret
      exact ⟨rfl, pw_below_drewN (below_step B2.out HB.out) _⟩
set_option maxHeartbeats 8000000 in
set_option maxRecDepth 100000 in
theorem impl_Encode.walk3 (a1 : ByteArray) (l : List Int) (r : ByteArray) (w : World) (hs : decide ((a1.size : Int) > 65536) = false) (hp : W_impl_points.f a1 = some l) (hl : l.length ≤ 1000000) (hq : ∀ p ∈ l, YtnonijganceneaaDoorPts.isP p) (hr : impl_short.f (strOfNums (YtnonijganceneaaDoorPts.encsF 3 l)) = some r) (hG : GT w) :
    Calls Tryd.prog 60 #[.int .i64 3, .string a1] w fun e w' => e = .returned (.string r) ∧ Below w.heap.size w w' := by
  have HS := Aside0.mk hs
  have HP := Aside0.mk hp
  have HQ := Aside0.mk hq
  have HG := Aside0.mk hG
  have HR0 := Aside0.mk hr
  clear hs hp hq hG hr
  have hm : ∀ W : World, (method 341 185 (.agg #[]) "AppendUint16").run Tryd.prog W = .ok (268, .agg #[]) W := fun W => by kernel_rfl
  go_enter Tryd.func60, Tryd.ntmps60
  go_wp2_with (first
    | (go_at_call 98; ((with_reducible refine (impl_Encode.long_ a1 false HS.out _).mono ?_); rintro e w1 ⟨rfl, ⟨nd, rfl⟩⟩))
    | (go_at_call 118; ((with_reducible refine (impl_Encode.isForm_ _ true (by decide) _).mono ?_); rintro e w1 ⟨rfl, ⟨nd, rfl⟩⟩))
    | (go_at_call 140; ((with_reducible refine (impl_Encode.orderL _ _ (.inl rfl)).mono ?_); rintro e w1 ⟨rfl, rfl⟩))
    | (go_at_call 103; ((with_reducible refine (W_impl_points.calls a1 l _ HP.out (GT.below HG.out (by repeat (first | exact Below.refl _ _ | apply pw_below_drewN | apply below_drew1)))).mono ?_); rintro e w2 ⟨v2, rfl, ho2, hb2⟩; obtain ⟨A2, c2, rfl⟩ := Kd.R_slice ho2; have R2 := Aside0.mk (Kd.R_reads' ho2); have B2 : Aside0 (Below w.heap.size w w2) := Aside0.mk (below_step (by repeat (first | exact Below.refl _ _ | apply pw_below_drewN | apply below_drew1)) hb2); clear ho2 hb2)))
  have hB0 : Aside0 (Kd.R (Kd.int .u8) 5 w2 w2.heap.size (fun _ => True) (.slice none 0 0) ([] : List Int)) := ⟨Kd.R_nil _ _ _ _ _⟩
  go_loopw [5, 28] (fun v5 v28 wr => ∃ (i : Nat), i ≤ l.length ∧ v28 = .int .i64 i ∧ Aside0 (Kd.R (Kd.int .u8) 5 wr w2.heap.size (fun _ => True) v5 (YtnonijganceneaaDoorPts.encsF 3 (l.take i))) ∧ Aside0 (Below w2.heap.size w2 wr)) (fun _ v28 _ => l.length - (intOf v28).toNat)
  case atStart => exact ⟨0, Nat.zero_le _, rfl, hB0, ⟨Below.refl _ _⟩⟩
  case round =>
    obtain ⟨i, hi, rfl, HR, HB⟩ := hrel
    have hlen := YtnonijganceneaaDoorPts.encsF_length 3 (l.take i)
    have hlt2 : (l.take i).length ≤ l.length := List.length_take_le' _ _
    have HL := Aside0.mk (show (YtnonijganceneaaDoorPts.encsF 3 (l.take i)).length ≤ 100000000 by omega)
    clear hlen hlt2 hB0
    by_cases hlt : i < l.length
    · obtain ⟨A5, c5, hv5⟩ := Kd.R_slice HR.out
      subst hv5
      have i1 : (i : Int) < (l.length : Int) := by omega
      have i0 : (0 : Int) ≤ (i : Int) := by omega
      obtain ⟨ad, e1, hx0⟩ := Kd.at_int R2.out.2.2 (i : Int) i0 i1
      subst e1
      have hx := (HB.out.cell (World.block_lt_of_cell? w2 _ hx0)).trans hx0
      rw [Int.toNat_natCast] at hx
      have hpp := impl_Encode.atP HQ.out i hlt
      unfold YtnonijganceneaaDoorPts.isP at hpp
      obtain ⟨p0, p1, _⟩ := hpp
      have q2 : decide ((i : Int) < (l.length : Int)) = true := decide_eq_true i1
      have HN := Aside0.mk (impl_Encode.snoc 3 l i hlt)
      obtain ⟨p, hp⟩ : ∃ p, rd l (i : Int) = p := ⟨_, rfl⟩
      rw [hp] at hx p0 p1 HN
      clear hx0 hp
      have hn : ∀ W : World, (nilAhead 341 185 (.agg #[]) "AppendUint16").run Tryd.prog W = .ok (some false) W := fun W => by kernel_rfl
      by_cases big : 65535 < p
      · have he : YtnonijganceneaaDoorPts.encF 3 p = YtnonijganceneaaDoorPts.unit 2 true (55296 + (p - 65536) / 1024) ++ YtnonijganceneaaDoorPts.unit 2 true (56320 + (p - 65536) % 1024) := by
          unfold YtnonijganceneaaDoorPts.encF
          rw [if_neg (by decide), if_neg (by decide), if_neg (by omega)]
          rfl
        rw [he] at HN
        clear he
        go_wp2
        obtain ⟨x, hd, hd2, hd0, hd1⟩ : ∃ x, Int.tdiv (p - 65536) 1024 = x ∧ (p - 65536) / 1024 = x ∧ 0 ≤ x ∧ x < 1024 := ⟨_, rfl, by rw [Int.tdiv_eq_ediv_of_nonneg (by omega)], by rw [Int.tdiv_eq_ediv_of_nonneg (by omega)]; omega, by rw [Int.tdiv_eq_ediv_of_nonneg (by omega)]; omega⟩
        obtain ⟨y, hm, hm2, hm0, hm1⟩ : ∃ x, Int.tmod (p - 65536) 1024 = x ∧ (p - 65536) % 1024 = x ∧ 0 ≤ x ∧ x < 1024 := ⟨_, rfl, by rw [Int.tmod_eq_emod_of_nonneg (by omega)], by rw [Int.tmod_eq_emod_of_nonneg (by omega)]; omega, by rw [Int.tmod_eq_emod_of_nonneg (by omega)]; omega⟩
        rw [hd2, hm2] at HN
        have k1 : IntKind.i64.wrap x = x := by rw [IntKind.wrap_i64]; omega
        have k2 : IntKind.i64.wrap (55296 + x) = 55296 + x := by rw [IntKind.wrap_i64]; omega
        have k3 : IntKind.u16.wrap (55296 + x) = 55296 + x := by simp [IntKind.wrap, IntKind.bits, IntKind.signed]; omega
        have k4 : IntKind.i64.wrap y = y := by rw [IntKind.wrap_i64]; omega
        have k5 : IntKind.i64.wrap (56320 + y) = 56320 + y := by rw [IntKind.wrap_i64]; omega
        have k6 : IntKind.u16.wrap (56320 + y) = 56320 + y := by simp [IntKind.wrap, IntKind.bits, IntKind.signed]; omega
        have HX1 := Aside0.mk (show 0 ≤ 55296 + x ∧ 55296 + x < 65536 by omega)
        have HX2 := Aside0.mk (show 0 ≤ 56320 + y ∧ 56320 + y < 65536 by omega)
        have HZ : Aside0 (w2.heap.size ≤ (World.drew wr).heap.size) := ⟨HB.out.size⟩
        clear hd2 hm2
        go_region_with (first
          | (go_at_call 268; ((with_reducible refine (impl_Encode.appL16 w2.heap.size (.slice A5 (YtnonijganceneaaDoorPts.encsF 3 (List.take i l)).length c5) (YtnonijganceneaaDoorPts.encsF 3 (List.take i l)) (55296 + x) _ HX1.out.1 HX1.out.2 (Kd.R_drew HR.out) HZ.out (Nat.le_trans HL.out (by decide))).mono ?_); rintro e w5 ⟨v5, rfl, ho5, hb5⟩))
          | (go_at_call 268; ((with_reducible refine (impl_Encode.appL16 w2.heap.size _ _ (56320 + y) _ HX2.out.1 HX2.out.2 ho5 (Nat.le_trans HZ.out hb5.size) (by have := HL.out; rw [List.length_append]; have : (YtnonijganceneaaDoorPts.unit 2 true (55296 + x)).length = 2 := rfl; omega)).mono ?_); rintro e w6 ⟨v6, rfl, ho6, hb6⟩)))
        all_goals
          have O6 := Aside0.mk ho6
          have B6 := Aside0.mk ((below_drew HB.out).trans (hb5.trans hb6))
          clear ho6 hb6 ho5 hb5 k1 k2 k3 k4 k5 k6 hd hm HX1 HX2
          go_wp2
          go_roundw
          case rel =>
            refine ⟨i + 1, by omega, by go_num, ⟨?_⟩, ⟨B6.out⟩⟩
            rw [HN.out, ← List.append_assoc]
            exact O6.out
          case measure => simp [intOf]; omega
      · have he : YtnonijganceneaaDoorPts.encF 3 p = YtnonijganceneaaDoorPts.unit 2 true p := by
          unfold YtnonijganceneaaDoorPts.encF
          rw [if_neg (by decide), if_neg (by decide), if_pos (by omega)]
          rfl
        rw [he] at HN
        clear he
        go_wp2_with (go_at_call 268; ((with_reducible refine (impl_Encode.appL16 w2.heap.size _ _ _ _ (by omega) (by omega) HR.out HB.out.size (by have := HL.out; omega)).mono ?_); rintro e w5 ⟨v5, rfl, ho5, hb5⟩; have O5 := Aside0.mk ho5; have B5 := Aside0.mk hb5; clear ho5 hb5))
        go_roundw
        case rel =>
          refine ⟨i + 1, by omega, by go_num, ⟨?_⟩, ⟨HB.out.trans B5.out⟩⟩
          rw [HN.out]
          exact O5.out
        case measure => simp [intOf]; omega
    · obtain rfl : i = l.length := by omega
      have hO := HR.out
      rw [List.take_length] at hO
      obtain ⟨A5, c5, hv5⟩ := Kd.R_slice hO
      subst hv5
      have hcv := own_string (P := Tryd.prog) Tryd.underlying22 Tryd.underlying5 Tryd.underlying9 (Kd.own_of_R hO)
      have HO := Aside0.mk hO
      clear hO HR hlt
      go_wp2_with (go_at_call 100; ((with_reducible refine (impl_short.calls _ r _ HR0.out).mono ?_); rintro e w4 ⟨rfl, ⟨nd4, rfl⟩⟩))
      go_ret
      exact ⟨rfl, pw_below_drewN (below_step B2.out HB.out) _⟩
set_option maxHeartbeats 8000000 in
set_option maxRecDepth 100000 in
theorem impl_Encode.walk4 (a1 : ByteArray) (l : List Int) (r : ByteArray) (w : World) (hs : decide ((a1.size : Int) > 65536) = false) (hp : W_impl_points.f a1 = some l) (hl : l.length ≤ 1000000) (hq : ∀ p ∈ l, YtnonijganceneaaDoorPts.isP p) (hr : impl_short.f (strOfNums (YtnonijganceneaaDoorPts.encsF 4 l)) = some r) (hG : GT w) :
    Calls Tryd.prog 60 #[.int .i64 4, .string a1] w fun e w' => e = .returned (.string r) ∧ Below w.heap.size w w' := by
  have HS := Aside0.mk hs
  have HP := Aside0.mk hp
  have HQ := Aside0.mk hq
  have HG := Aside0.mk hG
  have HR0 := Aside0.mk hr
  clear hs hp hq hG hr
  have hm : ∀ W : World, (method 341 184 (.agg #[]) "AppendUint32").run Tryd.prog W = .ok (264, .agg #[]) W := fun W => by kernel_rfl
  go_enter Tryd.func60, Tryd.ntmps60
  go_wp2_with (first
    | (go_at_call 98; ((with_reducible refine (impl_Encode.long_ a1 false HS.out _).mono ?_); rintro e w1 ⟨rfl, ⟨nd, rfl⟩⟩))
    | (go_at_call 118; ((with_reducible refine (impl_Encode.isForm_ _ true (by decide) _).mono ?_); rintro e w1 ⟨rfl, ⟨nd, rfl⟩⟩))
    | (go_at_call 140; ((with_reducible refine (impl_Encode.orderB _ _ (.inr rfl)).mono ?_); rintro e w1 ⟨rfl, rfl⟩))
    | (go_at_call 103; ((with_reducible refine (W_impl_points.calls a1 l _ HP.out (GT.below HG.out (by repeat (first | exact Below.refl _ _ | apply pw_below_drewN | apply below_drew1)))).mono ?_); rintro e w2 ⟨v2, rfl, ho2, hb2⟩; obtain ⟨A2, c2, rfl⟩ := Kd.R_slice ho2; have R2 := Aside0.mk (Kd.R_reads' ho2); have B2 : Aside0 (Below w.heap.size w w2) := Aside0.mk (below_step (by repeat (first | exact Below.refl _ _ | apply pw_below_drewN | apply below_drew1)) hb2); clear ho2 hb2)))
  have hB0 : Aside0 (Kd.R (Kd.int .u8) 5 w2 w2.heap.size (fun _ => True) (.slice none 0 0) ([] : List Int)) := ⟨Kd.R_nil _ _ _ _ _⟩
  go_loopw [5, 28] (fun v5 v28 wr => ∃ (i : Nat), i ≤ l.length ∧ v28 = .int .i64 i ∧ Aside0 (Kd.R (Kd.int .u8) 5 wr w2.heap.size (fun _ => True) v5 (YtnonijganceneaaDoorPts.encsF 4 (l.take i))) ∧ Aside0 (Below w2.heap.size w2 wr)) (fun _ v28 _ => l.length - (intOf v28).toNat)
  case atStart => exact ⟨0, Nat.zero_le _, rfl, hB0, ⟨Below.refl _ _⟩⟩
  case round =>
    obtain ⟨i, hi, rfl, HR, HB⟩ := hrel
    have hlen := YtnonijganceneaaDoorPts.encsF_length 4 (l.take i)
    have hlt2 : (l.take i).length ≤ l.length := List.length_take_le' _ _
    have HL := Aside0.mk (show (YtnonijganceneaaDoorPts.encsF 4 (l.take i)).length ≤ 100000000 by omega)
    clear hlen hlt2 hB0
    by_cases hlt : i < l.length
    · obtain ⟨A5, c5, hv5⟩ := Kd.R_slice HR.out
      subst hv5
      have i1 : (i : Int) < (l.length : Int) := by omega
      have i0 : (0 : Int) ≤ (i : Int) := by omega
      obtain ⟨ad, e1, hx0⟩ := Kd.at_int R2.out.2.2 (i : Int) i0 i1
      subst e1
      have hx := (HB.out.cell (World.block_lt_of_cell? w2 _ hx0)).trans hx0
      rw [Int.toNat_natCast] at hx
      have hpp := impl_Encode.atP HQ.out i hlt
      unfold YtnonijganceneaaDoorPts.isP at hpp
      obtain ⟨p0, p1, _⟩ := hpp
      have q2 : decide ((i : Int) < (l.length : Int)) = true := decide_eq_true i1
      have HN := Aside0.mk (impl_Encode.snoc 4 l i hlt)
      obtain ⟨p, hp⟩ : ∃ p, rd l (i : Int) = p := ⟨_, rfl⟩
      rw [hp] at hx p0 p1 HN
      clear hx0 hp
      go_wp2_with (go_at_call 264; ((with_reducible refine (impl_Encode.appB32 w2.heap.size _ _ _ _ (by omega) (by omega) HR.out HB.out.size (by have := HL.out; omega)).mono ?_); rintro e w5 ⟨v5, rfl, ho5, hb5⟩; have O5 := Aside0.mk ho5; have B5 := Aside0.mk hb5; clear ho5 hb5))
      go_roundw
      case rel =>
        refine ⟨i + 1, by omega, by go_num, ⟨?_⟩, ⟨HB.out.trans B5.out⟩⟩
        rw [HN.out]
        exact O5.out
      case measure => simp [intOf]; omega
    · obtain rfl : i = l.length := by omega
      have hO := HR.out
      rw [List.take_length] at hO
      obtain ⟨A5, c5, hv5⟩ := Kd.R_slice hO
      subst hv5
      have hcv := own_string (P := Tryd.prog) Tryd.underlying22 Tryd.underlying5 Tryd.underlying9 (Kd.own_of_R hO)
      have HO := Aside0.mk hO
      clear hO HR hlt
      go_wp2_with (go_at_call 100; ((with_reducible refine (impl_short.calls _ r _ HR0.out).mono ?_); rintro e w4 ⟨rfl, ⟨nd4, rfl⟩⟩))
      go_ret
      exact ⟨rfl, pw_below_drewN (below_step B2.out HB.out) _⟩
set_option maxHeartbeats 8000000 in
set_option maxRecDepth 100000 in
theorem impl_Encode.walk5 (a1 : ByteArray) (l : List Int) (r : ByteArray) (w : World) (hs : decide ((a1.size : Int) > 65536) = false) (hp : W_impl_points.f a1 = some l) (hl : l.length ≤ 1000000) (hq : ∀ p ∈ l, YtnonijganceneaaDoorPts.isP p) (hr : impl_short.f (strOfNums (YtnonijganceneaaDoorPts.encsF 5 l)) = some r) (hG : GT w) :
    Calls Tryd.prog 60 #[.int .i64 5, .string a1] w fun e w' => e = .returned (.string r) ∧ Below w.heap.size w w' := by
  have HS := Aside0.mk hs
  have HP := Aside0.mk hp
  have HQ := Aside0.mk hq
  have HG := Aside0.mk hG
  have HR0 := Aside0.mk hr
  clear hs hp hq hG hr
  have hm : ∀ W : World, (method 341 185 (.agg #[]) "AppendUint32").run Tryd.prog W = .ok (269, .agg #[]) W := fun W => by kernel_rfl
  go_enter Tryd.func60, Tryd.ntmps60
  go_wp2_with (first
    | (go_at_call 98; ((with_reducible refine (impl_Encode.long_ a1 false HS.out _).mono ?_); rintro e w1 ⟨rfl, ⟨nd, rfl⟩⟩))
    | (go_at_call 118; ((with_reducible refine (impl_Encode.isForm_ _ true (by decide) _).mono ?_); rintro e w1 ⟨rfl, ⟨nd, rfl⟩⟩))
    | (go_at_call 140; ((with_reducible refine (impl_Encode.orderL _ _ (.inr rfl)).mono ?_); rintro e w1 ⟨rfl, rfl⟩))
    | (go_at_call 103; ((with_reducible refine (W_impl_points.calls a1 l _ HP.out (GT.below HG.out (by repeat (first | exact Below.refl _ _ | apply pw_below_drewN | apply below_drew1)))).mono ?_); rintro e w2 ⟨v2, rfl, ho2, hb2⟩; obtain ⟨A2, c2, rfl⟩ := Kd.R_slice ho2; have R2 := Aside0.mk (Kd.R_reads' ho2); have B2 : Aside0 (Below w.heap.size w w2) := Aside0.mk (below_step (by repeat (first | exact Below.refl _ _ | apply pw_below_drewN | apply below_drew1)) hb2); clear ho2 hb2)))
  have hB0 : Aside0 (Kd.R (Kd.int .u8) 5 w2 w2.heap.size (fun _ => True) (.slice none 0 0) ([] : List Int)) := ⟨Kd.R_nil _ _ _ _ _⟩
  go_loopw [5, 28] (fun v5 v28 wr => ∃ (i : Nat), i ≤ l.length ∧ v28 = .int .i64 i ∧ Aside0 (Kd.R (Kd.int .u8) 5 wr w2.heap.size (fun _ => True) v5 (YtnonijganceneaaDoorPts.encsF 5 (l.take i))) ∧ Aside0 (Below w2.heap.size w2 wr)) (fun _ v28 _ => l.length - (intOf v28).toNat)
  case atStart => exact ⟨0, Nat.zero_le _, rfl, hB0, ⟨Below.refl _ _⟩⟩
  case round =>
    obtain ⟨i, hi, rfl, HR, HB⟩ := hrel
    have hlen := YtnonijganceneaaDoorPts.encsF_length 5 (l.take i)
    have hlt2 : (l.take i).length ≤ l.length := List.length_take_le' _ _
    have HL := Aside0.mk (show (YtnonijganceneaaDoorPts.encsF 5 (l.take i)).length ≤ 100000000 by omega)
    clear hlen hlt2 hB0
    by_cases hlt : i < l.length
    · obtain ⟨A5, c5, hv5⟩ := Kd.R_slice HR.out
      subst hv5
      have i1 : (i : Int) < (l.length : Int) := by omega
      have i0 : (0 : Int) ≤ (i : Int) := by omega
      obtain ⟨ad, e1, hx0⟩ := Kd.at_int R2.out.2.2 (i : Int) i0 i1
      subst e1
      have hx := (HB.out.cell (World.block_lt_of_cell? w2 _ hx0)).trans hx0
      rw [Int.toNat_natCast] at hx
      have hpp := impl_Encode.atP HQ.out i hlt
      unfold YtnonijganceneaaDoorPts.isP at hpp
      obtain ⟨p0, p1, _⟩ := hpp
      have q2 : decide ((i : Int) < (l.length : Int)) = true := decide_eq_true i1
      have HN := Aside0.mk (impl_Encode.snoc 5 l i hlt)
      obtain ⟨p, hp⟩ : ∃ p, rd l (i : Int) = p := ⟨_, rfl⟩
      rw [hp] at hx p0 p1 HN
      clear hx0 hp
      go_wp2_with (go_at_call 269; ((with_reducible refine (impl_Encode.appL32 w2.heap.size _ _ _ _ (by omega) (by omega) HR.out HB.out.size (by have := HL.out; omega)).mono ?_); rintro e w5 ⟨v5, rfl, ho5, hb5⟩; have O5 := Aside0.mk ho5; have B5 := Aside0.mk hb5; clear ho5 hb5))
      go_roundw
      case rel =>
        refine ⟨i + 1, by omega, by go_num, ⟨?_⟩, ⟨HB.out.trans B5.out⟩⟩
        rw [HN.out]
        exact O5.out
      case measure => simp [intOf]; omega
    · obtain rfl : i = l.length := by omega
      have hO := HR.out
      rw [List.take_length] at hO
      obtain ⟨A5, c5, hv5⟩ := Kd.R_slice hO
      subst hv5
      have hcv := own_string (P := Tryd.prog) Tryd.underlying22 Tryd.underlying5 Tryd.underlying9 (Kd.own_of_R hO)
      have HO := Aside0.mk hO
      clear hO HR hlt
      go_wp2_with (go_at_call 100; ((with_reducible refine (impl_short.calls _ r _ HR0.out).mono ?_); rintro e w4 ⟨rfl, ⟨nd4, rfl⟩⟩))
      go_ret
      exact ⟨rfl, pw_below_drewN (below_step B2.out HB.out) _⟩
set_option maxHeartbeats 8000000 in
set_option maxRecDepth 100000 in
theorem impl_Encode.walk1 (a1 : ByteArray) (l : List Int) (s r : ByteArray) (w : World) (hs : decide ((a1.size : Int) > 65536) = false) (hp : W_impl_points.f a1 = some l) (hw : W_impl_write.f l = some s) (hr : impl_short.f s = some r) (hG : GT w) :
    Calls Tryd.prog 60 #[.int .i64 1, .string a1] w fun e w' => e = .returned (.string r) ∧ Below w.heap.size w w' := by
  have HS := Aside0.mk hs
  have HP := Aside0.mk hp
  have HW := Aside0.mk hw
  have HG := Aside0.mk hG
  have HR0 := Aside0.mk hr
  clear hs hp hw hG hr
  go_enter Tryd.func60, Tryd.ntmps60
  go_wp2_with (first
    | (go_at_call 98; ((with_reducible refine (impl_Encode.long_ a1 false HS.out _).mono ?_); rintro e w1 ⟨rfl, ⟨nd, rfl⟩⟩))
    | (go_at_call 118; ((with_reducible refine (impl_Encode.isForm_ _ true (by decide) _).mono ?_); rintro e w1 ⟨rfl, ⟨nd, rfl⟩⟩))
    | (go_at_call 103; ((with_reducible refine (W_impl_points.calls a1 l _ HP.out (GT.below HG.out (by repeat (first | exact Below.refl _ _ | apply pw_below_drewN | apply below_drew1)))).mono ?_); rintro e w2 ⟨v2, rfl, ho2, hb2⟩; obtain ⟨A2, c2, rfl⟩ := Kd.R_slice ho2; have R2 := Aside0.mk (Kd.R_reads' ho2); have B2 : Aside0 (Below w.heap.size w w2) := Aside0.mk (below_step (by repeat (first | exact Below.refl _ _ | apply pw_below_drewN | apply below_drew1)) hb2); clear ho2 hb2))
    | (go_at_call 105; ((with_reducible refine (W_impl_write.calls A2 c2 l s _ R2.out.2.2 R2.out.2.1 HW.out).mono ?_); rintro e w3 ⟨rfl, hb3⟩; have B3 := Aside0.mk (below_step B2.out hb3); clear hb3))
    | (go_at_call 100; ((with_reducible refine (impl_short.calls s r _ HR0.out).mono ?_); rintro e w4 ⟨rfl, ⟨nd4, rfl⟩⟩)))
  go_ret
  exact ⟨rfl, pw_below_drewN B3.out _⟩
set_option maxHeartbeats 8000000 in
set_option maxRecDepth 100000 in
theorem impl_Encode.calls (a0 : Int) (a1 : ByteArray) (r : ByteArray) (w : World) (h : impl_Encode.f a0 a1 = some r) (hG : GT w) :
    Calls Tryd.prog 60 #[.int .i64 a0, .string a1] w fun e w' => e = .returned (.string r) ∧ Below w.heap.size w w' := by
  unfold impl_Encode.f at h
  by_cases c : (a1.size : Int) > 65536
  · rw [if_pos c] at h
    obtain rfl := Option.some.inj h
    have HL := fun W => impl_Encode.long_ a1 true (decide_eq_true c) W
    clear h c hG
    go_enter Tryd.func60, Tryd.ntmps60
    go_wp2_with (first | (go_at_call 98; refine (HL _).mono ?_; rintro e w1 ⟨rfl, ⟨nd, rfl⟩⟩))
    go_ret
    exact ⟨rfl, by repeat (first | exact Below.refl _ _ | apply pw_below_drewN | apply below_drew1)⟩
  · rw [if_neg c] at h
    have hs : decide ((a1.size : Int) > 65536) = false := decide_eq_false c
    by_cases c2 : 1 ≤ a0 ∧ a0 ≤ 5
    · rw [if_pos c2] at h
      obtain ⟨l, hl, h⟩ := Option.bind_eq_some_iff.mp h
      by_cases c3 : a0 = 1
      · subst c3
        rw [if_pos rfl] at h
        obtain ⟨s, hw, h⟩ := Option.bind_eq_some_iff.mp h
        exact impl_Encode.walk1 a1 l s r w hs hl hw h hG
      · rw [if_neg c3] at h
        by_cases c4 : l.length ≤ 1000000 ∧ (∀ p ∈ l, YtnonijganceneaaDoorPts.isP p)
        · rw [if_pos c4] at h
          obtain rfl | rfl | rfl | rfl : a0 = 2 ∨ a0 = 3 ∨ a0 = 4 ∨ a0 = 5 := by omega
          · exact impl_Encode.walk2 a1 l r w hs hl c4.1 c4.2 h hG
          · exact impl_Encode.walk3 a1 l r w hs hl c4.1 c4.2 h hG
          · exact impl_Encode.walk4 a1 l r w hs hl c4.1 c4.2 h hG
          · exact impl_Encode.walk5 a1 l r w hs hl c4.1 c4.2 h hG
        · rw [if_neg c4] at h
          cases h
    · rw [if_neg c2] at h
      obtain rfl := Option.some.inj h
      have HL := fun W => impl_Encode.long_ a1 false hs W
      have HF := fun W => impl_Encode.isForm_ a0 false (decide_eq_false c2) W
      clear h c hG c2 hs
      go_enter Tryd.func60, Tryd.ntmps60
      go_wp2_with (first | (go_at_call 98; refine (HL _).mono ?_; rintro e w1 ⟨rfl, ⟨nd, rfl⟩⟩) | (go_at_call 118; refine (HF _).mono ?_; rintro e w1 ⟨rfl, ⟨nd, rfl⟩⟩))
      go_ret
      exact ⟨rfl, by repeat (first | exact Below.refl _ _ | apply pw_below_drewN | apply below_drew1)⟩

/-! ### spec_l02IsForm: function 116 -/
def spec_l02IsForm.f (a0 : Int) : Option (Bool) := if a0 ≥ 1 then (some (decide (a0 ≤ 5))) else (some false)
set_option maxHeartbeats 8000000 in
set_option maxRecDepth 100000 in
theorem spec_l02IsForm.calls (a0 : Int) (r : Bool) (w : World) (h : spec_l02IsForm.f a0 = some r) :
    Calls Tryd.prog 116 #[.int .i64 a0] w fun e w' => e = .returned (.bool r) ∧ Drawn0 w w' := by
  have H : (if a0 ≥ 1 then (some (decide (a0 ≤ 5))) else (some false)) = some r := h
  clear h
  by_cases c2 : a0 ≥ 1
  · rw [if_pos c2] at H
    have c2b0 : decide (1 ≤ a0) = true := decide_eq_true c2
    clear c2
    obtain rfl := Option.some.inj H
    go_enter Tryd.func116, Tryd.ntmps116
    go_wp2
    go_ret
    exact ⟨by first | rfl | (simp; done) | (simp [*]; done), by repeat (first | exact Drawn0.refl _ | apply Drawn0.step)⟩
  · rw [if_neg c2] at H
    have c2b0 : decide (1 ≤ a0) = false := decide_eq_false c2
    clear c2
    obtain rfl := Option.some.inj H
    go_enter Tryd.func116, Tryd.ntmps116
    go_wp2
    go_ret
    exact ⟨by first | rfl | (simp; done) | (simp [*]; done), by repeat (first | exact Drawn0.refl _ | apply Drawn0.step)⟩

end Go.Proofs.YtnonijganceneaaDoor.QFnCodes
