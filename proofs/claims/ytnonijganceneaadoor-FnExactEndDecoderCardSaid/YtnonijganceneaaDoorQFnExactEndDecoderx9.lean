/- The law FnExactEndDecoder: at every input the call answers true (this text: contracts on its way, by a program of this session's; no condition of ours). -/
import Derived.Test.YtnonijganceneaaDoorQFnExactEndDecoderx0
import Derived.Test.YtnonijganceneaaDoorQFnExactEndDecoderx1
import Derived.Test.YtnonijganceneaaDoorQFnExactEndDecoderx3
import Derived.Test.YtnonijganceneaaDoorQFnExactEndDecoderx6
import Derived.Test.YtnonijganceneaaDoorQFnExactEndDecoderx7
import Derived.Test.YtnonijganceneaaDoorQFnExactEndDecoderx8
namespace Go.Proofs.YtnonijganceneaaDoor.QFnExactEndDecoder
open Go.RowKit Go.Proofs.YtnonijganceneaaDoorW.PrintWords Go.Proofs.YtnonijganceneaaDoorW.PrintLast Go.Proofs.YtnonijganceneaaDoorW.PrintMore
attribute [local go_sem] max2_int min2_int max_two min_two max_three min_three max_four min_four   -- for this text's walks alone
set_option linter.unusedVariables false
set_option linter.unusedSimpArgs false

/-! ### spec_l02Decode: function 117 (by hand) -/
theorem spec_l02Decode.fieldA {e1 e2 : Nat} {w1 w2 : World} {b1 b2 : Nat} {o1 o2 : Nat → Prop} {v u : Value} {x y : List Int} (h1 : Kd.R (Kd.int .i64) e1 w1 b1 o1 v x) (h2 : Kd.R (Kd.int .i64) e2 w2 b2 o2 u y) (n : Int) (W : World) : (Instr.field 100 (.agg #[v, u, .int .i64 n]) 0).run Tryd.prog W = .ok v W := by
  obtain ⟨A, c, rfl⟩ := Kd.R_slice h1
  obtain ⟨A, c, rfl⟩ := Kd.R_slice h2
  kernel_rfl
theorem spec_l02Decode.fieldB {e1 e2 : Nat} {w1 w2 : World} {b1 b2 : Nat} {o1 o2 : Nat → Prop} {v u : Value} {x y : List Int} (h1 : Kd.R (Kd.int .i64) e1 w1 b1 o1 v x) (h2 : Kd.R (Kd.int .i64) e2 w2 b2 o2 u y) (n : Int) (W : World) : (Instr.field 100 (.agg #[v, u, .int .i64 n]) 1).run Tryd.prog W = .ok u W := by
  obtain ⟨A, c, rfl⟩ := Kd.R_slice h1
  obtain ⟨A, c, rfl⟩ := Kd.R_slice h2
  kernel_rfl
theorem spec_l02Decode.fieldC {e1 e2 : Nat} {w1 w2 : World} {b1 b2 : Nat} {o1 o2 : Nat → Prop} {v u : Value} {x y : List Int} (h1 : Kd.R (Kd.int .i64) e1 w1 b1 o1 v x) (h2 : Kd.R (Kd.int .i64) e2 w2 b2 o2 u y) (n : Int) (W : World) : (Instr.field 100 (.agg #[v, u, .int .i64 n]) 2).run Tryd.prog W = .ok (.int .i64 n) W := by
  obtain ⟨A, c, rfl⟩ := Kd.R_slice h1
  obtain ⟨A, c, rfl⟩ := Kd.R_slice h2
  kernel_rfl
def spec_l02Decode.f (a0 : Int) (a1 : ByteArray) (a2 : Bool) : Option (List Int × List Int × Int) := if a1.size ≤ 1099511627776 then some (YtnonijganceneaaDoorDec.dall a0 a2 (bytesOf a1) 0) else none
theorem spec_l02Decode.ends {W W1 : World} {base base' g : Nat} {vp vb : Value} {p b : List Int} (h : Kd.R (Kd.int .i64) 2 W base (fun k => k ≠ g) vp p) (hq : Kd.R (Kd.int .i64) 2 W base (fun k => k ≠ g ∧ some k ≠ vp.ownBlock) vb b) (hm : ∀ k, base ≤ k → W1.heap[k]? = W.heap[k]?) (hb : base' ≤ base) :
    Kd.R (Kd.int .i64) 2 W1 base' (fun k_ => some k_ ≠ vb.ownBlock) vp p ∧ Kd.R (Kd.int .i64) 2 W1 base' (fun k_ => some k_ ≠ vp.ownBlock) vb b := by
  have h1 := Kd.R_lower (Kd.R_move (Kd.R_bound h) (fun k hk => hm k hk.2.1)) hb
  have h2 := Kd.R_lower (Kd.R_move (Kd.R_bound hq) (fun k hk => hm k hk.2.1)) hb
  exact ⟨Kd.R_of_own (Kd.own_of_R h1) (fun k hk e => (hq.1 k e.symm).2 hk.symm), Kd.R_of_own (Kd.own_of_R h2) (fun k hk => (hq.1 k hk).2)⟩
theorem spec_l02Decode.fin {w w1 w2 : World} {o : Obj} {g : Nat} {vp vb : Value} {p b : List Int} (hw1 : w.alloc o = w1) (hB : Below w1.heap.size w1 w2) (h : Kd.R (Kd.int .i64) 2 w2 w1.heap.size (fun k => k ≠ g) vp p) (hq : Kd.R (Kd.int .i64) 2 w2 w1.heap.size (fun k => k ≠ g ∧ some k ≠ vp.ownBlock) vb b) (x y z : Value) :
    Kd.R (Kd.int .i64) 2 (((w2.setCell ⟨w.heap.size, 0, none⟩ x).setCell ⟨w.heap.size, 1, none⟩ y).setCell ⟨w.heap.size, 2, none⟩ z) w.heap.size (fun k_ => some k_ ≠ vb.ownBlock) vp p ∧ Kd.R (Kd.int .i64) 2 (((w2.setCell ⟨w.heap.size, 0, none⟩ x).setCell ⟨w.heap.size, 1, none⟩ y).setCell ⟨w.heap.size, 2, none⟩ z) w.heap.size (fun k_ => some k_ ≠ vp.ownBlock) vb b ∧
    Below w.heap.size w (((w2.setCell ⟨w.heap.size, 0, none⟩ x).setCell ⟨w.heap.size, 1, none⟩ y).setCell ⟨w.heap.size, 2, none⟩ z) := by
  subst hw1
  have hsz : (w.alloc o).heap.size = w.heap.size + 1 := by simp
  have e := spec_l02Decode.ends (W1 := ((w2.setCell ⟨w.heap.size, 0, none⟩ x).setCell ⟨w.heap.size, 1, none⟩ y).setCell ⟨w.heap.size, 2, none⟩ z) (base' := w.heap.size) h hq (fun k hk => by
    rw [Below.heap_setCell _ _ _ k (by simp; omega), Below.heap_setCell _ _ _ k (by simp; omega), Below.heap_setCell _ _ _ k (by simp; omega)]) (by omega)
  exact ⟨e.1, e.2, below_set (below_set (below_set (below_step (below_alloc (Below.refl _ _) o) hB) (Nat.le_refl _)) (Nat.le_refl _)) (Nat.le_refl _)⟩
set_option maxHeartbeats 8000000 in
set_option maxRecDepth 100000 in
theorem spec_l02Decode.calls (a0 : Int) (a1 : ByteArray) (a2 : Bool) (r1 r2 : List Int) (r3 : Int) (w : World) (h : spec_l02Decode.f a0 a1 a2 = some (r1, r2, r3)) :
    Calls Tryd.prog 117 #[.int .i64 a0, .string a1, .bool a2] w fun e w' => ∃ v0_ v1_ : Value, e = .returned (.agg #[v0_, v1_, .int .i64 r3]) ∧ Kd.R (Kd.int .i64) 2 w' w.heap.size (fun k_ => some k_ ≠ v1_.ownBlock) v0_ r1 ∧ Kd.R (Kd.int .i64) 2 w' w.heap.size (fun k_ => some k_ ≠ v0_.ownBlock) v1_ r2 ∧ Below w.heap.size w w' := by
  unfold spec_l02Decode.f at h
  by_cases hs : a1.size ≤ 1099511627776
  · rw [if_pos hs] at h
    obtain ⟨F, HF⟩ : ∃ F : Int, F = a0 := ⟨_, rfl⟩
    rw [← HF] at h
    have HH0 := Aside0.mk (Option.some.inj h)
    replace HF := Aside0.mk HF
    clear h
    have hsz : a1.size ≤ 9223372036854775807 := by omega
    obtain ⟨w1, hw1⟩ : ∃ w1, w.alloc (.cells #[.slice none 0 0, .slice none 0 0, .int .i64 0] 100) = w1 := ⟨_, rfl⟩
    have HWB := Aside0.mk (show w1.heap[w.heap.size]? = some (.cells #[.slice none 0 0, .slice none 0 0, .int .i64 0] 100 (0, 0)) from hw1 ▸ heap_alloc_new w _)
    have hw1 := Aside0.mk hw1
    have hf : (a0 = 1 ∨ a0 = 3 ∨ a0 = 5) ∨ (((a0 == 1) = false ∧ (a0 == 3) = false ∧ (a0 == 5) = false) ∧ (a0 < 4 ∨ 4 ≤ a0)) := by
      by_cases f1 : a0 = 1
      · exact .inl (.inl f1)
      · by_cases f3 : a0 = 3
        · exact .inl (.inr (.inl f3))
        · by_cases f5 : a0 = 5
          · exact .inl (.inr (.inr f5))
          · exact .inr ⟨⟨by simpa using f1, by simpa using f3, by simpa using f5⟩, by omega⟩
    have hst : ∀ (p b : List Int) (u : Nat), u < a1.size → p.length ≤ u → b.length ≤ u → ∃ on p' b' u', YtnonijganceneaaDoorDec.step (YtnonijganceneaaDoorDec.pieceP F ((bytesOf a1).drop u)) a2 p b (u : Int) = (on, p', b', u') ∧
        (F = 1 → W_spec_l02Read_eight.f p b (u : Int) a1 a2 = some (on, p', b', u')) ∧
        (∀ x, x = (F == 5) → F ≠ 1 → 4 ≤ F → W_spec_l02Read_wide.f p b (u : Int) a1 x a2 = some (on, p', b', u')) ∧
        (∀ x, x = (F == 3) → F ≠ 1 → F < 4 → W_spec_l02Read_sixteen.f p b (u : Int) a1 x a2 = some (on, p', b', u')) := by
      intro p b u hu h1 h2
      obtain ⟨S, hS⟩ : ∃ S, YtnonijganceneaaDoorDec.step (YtnonijganceneaaDoorDec.pieceP F ((bytesOf a1).drop u)) a2 p b (u : Int) = S := ⟨_, rfl⟩
      obtain ⟨on, p', b', u'⟩ := S
      refine ⟨on, p', b', u', hS, fun e => ?_, fun x hx e f => ?_, fun x hx e f => ?_⟩ <;> rw [← hS]
      · unfold W_spec_l02Read_eight.f YtnonijganceneaaDoorDec.pieceP
        rw [if_pos ⟨by omega, by omega, hs, by omega, by omega⟩, if_pos e, Int.toNat_natCast]
      · unfold W_spec_l02Read_wide.f YtnonijganceneaaDoorDec.pieceP
        rw [if_pos ⟨by omega, by omega, hs, by omega, by omega⟩, if_neg e, if_pos f, Int.toNat_natCast, hx]
        rfl
      · unfold W_spec_l02Read_sixteen.f YtnonijganceneaaDoorDec.pieceP
        rw [if_pos ⟨by omega, by omega, hs, by omega, by omega⟩, if_neg e, if_neg (by omega), Int.toNat_natCast, hx]
        rfl
    have HST := Aside0.mk hst
    clear hst
    rcases hf with (rfl | rfl | rfl) | ⟨⟨e1, e3, e5⟩, hf | hf⟩
    all_goals
      go_enter Tryd.func117, Tryd.ntmps117
      go_wp2
      go_loopw [9] (fun _ wr => ∃ (p b : List Int) (u : Nat), Aside0 (u ≤ a1.size ∧ p.length ≤ u ∧ b.length ≤ u ∧ IsS100 w1 wr w1.heap.size p b (u : Int) ∧ Below w1.heap.size w1 wr ∧ (p ++ (YtnonijganceneaaDoorDec.dall F a2 ((bytesOf a1).drop u) (u : Int)).1, b ++ (YtnonijganceneaaDoorDec.dall F a2 ((bytesOf a1).drop u) (u : Int)).2.1, (YtnonijganceneaaDoorDec.dall F a2 ((bytesOf a1).drop u) (u : Int)).2.2) = (r1, r2, r3))) (fun _ wr => a1.size - (intOf ((wr.cell? ⟨w1.heap.size, 2, none⟩).getD undef)).toNat)
      case atStart =>
        exact ⟨[], [], 0, ⟨Nat.zero_le _, Nat.le_refl _, Nat.le_refl _, ⟨none, 0, none, 0, heap_alloc_new _ _, Nat.le_refl _, Kd.R_nil _ _ _ _ _, Kd.R_nil _ _ _ _ _⟩, below_alloc (Below.refl _ _) _, HH0.out⟩⟩
      case round =>
        obtain ⟨p, b, u, HH⟩ := hrel
        obtain ⟨A0, c0, A1, c1, HG, _, hR0, hR1⟩ := HH.out.2.2.2.1
        have k0 := cellS100_0 HG
        have k1 := cellS100_1 HG
        have k2 := cellS100_2 HG
        have HR0 := Aside0.mk hR0
        have HR1 := Aside0.mk hR1
        clear HG hR0 hR1
        by_cases hlt : u < a1.size
        · obtain ⟨on, p', b', u', hst, hw8, hw32, hw16⟩ := HST.out p b u hlt HH.out.2.1 HH.out.2.2.1
          have hne := spec_l02Read_eight.drop_ne a1 u hlt
          have hby := spec_l02Read_eight.drop_bytes a1 u
          have HW8 := Aside0.mk hw8
          have HW32 := Aside0.mk hw32
          have HW16 := Aside0.mk hw16
          clear hw8 hw32 hw16
          cases on
          · have he := (YtnonijganceneaaDoorDec.dall_halt hne hst).symm.trans HH.out.2.2.2.2.2
            simp only [Prod.mk.injEq] at he
            obtain ⟨rfl, rfl, rfl⟩ := he
            clear hst hne hby k0 k1
            go_wp2_with (first
              | (go_at_call 182; refine (W_spec_l02Read_eight.calls w1.heap.size p b (u : Int) a1 a2 false p' b' u' w1 _ HH.out.2.2.2.1 HH.out.2.2.2.2.1 (HW8.out HF.out)).mono ?_; rintro e w2 ⟨rfl, hI2, hB2, _⟩; obtain ⟨A0, c0, A1, c1, HG, _, hR0, hR1⟩ := hI2; have k0 := cellS100_0 HG; have k1 := cellS100_1 HG; have k2 := cellS100_2 HG; have hbw := blk_below HWB.out hB2; have q0 : w2.cell? ⟨w.heap.size, 0, none⟩ = some (.slice none 0 0) := (blk_cell hbw 0).trans rfl; have q1 : w2.cell? ⟨w.heap.size, 1, none⟩ = some (.slice none 0 0) := (blk_cell hbw 1).trans rfl; have q2 : w2.cell? ⟨w.heap.size, 2, none⟩ = some (.int .i64 0) := (blk_cell hbw 2).trans rfl; have z0 := blk_frozen hbw 0; have z1 := blk_frozen hbw 1; have z2 := blk_frozen hbw 2; have HBW := Aside0.mk hbw; have FN := Aside0.mk (spec_l02Decode.fin hw1.out hB2 hR0 hR1); clear hbw HG hB2 hR0 hR1)
              | (go_at_call 183; refine (W_spec_l02Read_wide.calls w1.heap.size p b (u : Int) a1 _ a2 false p' b' u' w1 _ HH.out.2.2.2.1 HH.out.2.2.2.2.1 (HW32.out _ (by rw [HF.out]; first | rfl | exact e5.symm) (by rw [HF.out]; first | decide | (intro z; rw [z] at e1; cases e1)) (by rw [HF.out]; omega))).mono ?_; rintro e w2 ⟨rfl, hI2, hB2, _⟩; obtain ⟨A0, c0, A1, c1, HG, _, hR0, hR1⟩ := hI2; have k0 := cellS100_0 HG; have k1 := cellS100_1 HG; have k2 := cellS100_2 HG; have hbw := blk_below HWB.out hB2; have q0 : w2.cell? ⟨w.heap.size, 0, none⟩ = some (.slice none 0 0) := (blk_cell hbw 0).trans rfl; have q1 : w2.cell? ⟨w.heap.size, 1, none⟩ = some (.slice none 0 0) := (blk_cell hbw 1).trans rfl; have q2 : w2.cell? ⟨w.heap.size, 2, none⟩ = some (.int .i64 0) := (blk_cell hbw 2).trans rfl; have z0 := blk_frozen hbw 0; have z1 := blk_frozen hbw 1; have z2 := blk_frozen hbw 2; have HBW := Aside0.mk hbw; have FN := Aside0.mk (spec_l02Decode.fin hw1.out hB2 hR0 hR1); clear hbw HG hB2 hR0 hR1)
              | (go_at_call 184; refine (W_spec_l02Read_sixteen.calls w1.heap.size p b (u : Int) a1 _ a2 false p' b' u' w1 _ HH.out.2.2.2.1 HH.out.2.2.2.2.1 (HW16.out _ (by rw [HF.out]; first | rfl | exact e3.symm) (by rw [HF.out]; first | decide | (intro z; rw [z] at e1; cases e1)) (by rw [HF.out]; omega))).mono ?_; rintro e w2 ⟨rfl, hI2, hB2, _⟩; obtain ⟨A0, c0, A1, c1, HG, _, hR0, hR1⟩ := hI2; have k0 := cellS100_0 HG; have k1 := cellS100_1 HG; have k2 := cellS100_2 HG; have hbw := blk_below HWB.out hB2; have q0 : w2.cell? ⟨w.heap.size, 0, none⟩ = some (.slice none 0 0) := (blk_cell hbw 0).trans rfl; have q1 : w2.cell? ⟨w.heap.size, 1, none⟩ = some (.slice none 0 0) := (blk_cell hbw 1).trans rfl; have q2 : w2.cell? ⟨w.heap.size, 2, none⟩ = some (.int .i64 0) := (blk_cell hbw 2).trans rfl; have z0 := blk_frozen hbw 0; have z1 := blk_frozen hbw 1; have z2 := blk_frozen hbw 2; have HBW := Aside0.mk hbw; have FN := Aside0.mk (spec_l02Decode.fin hw1.out hB2 hR0 hR1); clear hbw HG hB2 hR0 hR1))
            exact bodyPost_ret (v := .agg #[.slice A0 p'.length c0, .slice A1 b'.length c1, .int .i64 u']) (results_single rfl (.cell _ _ _ _ _ rfl (blk_put (blk_put (blk_put HBW.out 0 _ rfl) 1 _ rfl) 2 _ rfl) Tryd.underlying100 rfl (by kernel_rfl) .nil)) rfl ⟨_, _, rfl, (FN.out _ _ _).1, (FN.out _ _ _).2.1, (FN.out _ _ _).2.2⟩
          · obtain ⟨he, hu', hp', hb'⟩ := YtnonijganceneaaDoorDec.dall_step hne hby hst
            have hpb := YtnonijganceneaaDoorDec.piece_bound F hne hby
            rw [List.length_drop, bytesOf_length] at hpb
            have HE := Aside0.mk (he.symm.trans HH.out.2.2.2.2.2)
            have HU := Aside0.mk hu'
            have HPB := Aside0.mk hpb
            have HL := Aside0.mk (And.intro hp' hb')
            clear he hu' hp' hb' hpb hst hne hby k0 k1
            go_wp2_with (first
              | (go_at_call 182; refine (W_spec_l02Read_eight.calls w1.heap.size p b (u : Int) a1 a2 true p' b' u' w1 _ HH.out.2.2.2.1 HH.out.2.2.2.2.1 (HW8.out HF.out)).mono ?_; rintro e w2 ⟨rfl, hI2, hB2, _⟩; have HI2 := Aside0.mk hI2; have HB2 := Aside0.mk hB2; clear hI2 hB2)
              | (go_at_call 183; refine (W_spec_l02Read_wide.calls w1.heap.size p b (u : Int) a1 _ a2 true p' b' u' w1 _ HH.out.2.2.2.1 HH.out.2.2.2.2.1 (HW32.out _ (by rw [HF.out]; first | rfl | exact e5.symm) (by rw [HF.out]; first | decide | (intro z; rw [z] at e1; cases e1)) (by rw [HF.out]; omega))).mono ?_; rintro e w2 ⟨rfl, hI2, hB2, _⟩; have HI2 := Aside0.mk hI2; have HB2 := Aside0.mk hB2; clear hI2 hB2)
              | (go_at_call 184; refine (W_spec_l02Read_sixteen.calls w1.heap.size p b (u : Int) a1 _ a2 true p' b' u' w1 _ HH.out.2.2.2.1 HH.out.2.2.2.2.1 (HW16.out _ (by rw [HF.out]; first | rfl | exact e3.symm) (by rw [HF.out]; first | decide | (intro z; rw [z] at e1; cases e1)) (by rw [HF.out]; omega))).mono ?_; rintro e w2 ⟨rfl, hI2, hB2, _⟩; have HI2 := Aside0.mk hI2; have HB2 := Aside0.mk hB2; clear hI2 hB2))
            go_roundw
            case rel =>
              refine ⟨p', b', u + (YtnonijganceneaaDoorDec.pieceP F ((bytesOf a1).drop u)).2.1, ⟨?_⟩⟩
              have e : u' = ((u + (YtnonijganceneaaDoorDec.pieceP F ((bytesOf a1).drop u)).2.1 : Nat) : Int) := by rw [HU.out]; omega
              have hpb := HPB.out
              have hll := HL.out
              have hh := HH.out
              have HI2 := HI2.out
              have HE := HE.out
              rw [e, List.drop_drop] at HE
              rw [e] at HI2
              exact ⟨by omega, by omega, by omega, HI2, HB2.out, HE⟩
            case measure =>
              have hpb := HPB.out
              have hu := HU.out
              obtain ⟨A0, c0, A1, c1, HG, _, _, _⟩ := HI2.out
              have k2' := cellS100_2 HG
              rw [k2, k2']
              simp only [Option.getD_some, intOf]
              omega
        · obtain rfl : u = a1.size := by have := HH.out.1; omega
          have he := HH.out.2.2.2.2.2
          rw [List.drop_eq_nil_of_le (by rw [bytesOf_length]; exact Nat.le_refl _), YtnonijganceneaaDoorDec.dall_nil] at he
          simp only [List.append_nil, Prod.mk.injEq] at he
          obtain ⟨rfl, rfl, rfl⟩ := he
          have hbw := blk_below HWB.out HH.out.2.2.2.2.1
          have q0 : wr.cell? ⟨w.heap.size, 0, none⟩ = some (.slice none 0 0) := (blk_cell hbw 0).trans rfl
          have q1 : wr.cell? ⟨w.heap.size, 1, none⟩ = some (.slice none 0 0) := (blk_cell hbw 1).trans rfl
          have q2 : wr.cell? ⟨w.heap.size, 2, none⟩ = some (.int .i64 0) := (blk_cell hbw 2).trans rfl
          have z0 := blk_frozen hbw 0
          have z1 := blk_frozen hbw 1
          have z2 := blk_frozen hbw 2
          have HBW := Aside0.mk hbw
          have FN := Aside0.mk (spec_l02Decode.fin hw1.out HH.out.2.2.2.2.1 HR0.out HR1.out)
          clear hbw
          go_wp2
          exact bodyPost_ret (v := .agg #[.slice A0 p.length c0, .slice A1 b.length c1, .int .i64 (a1.size : Nat)]) (results_single rfl (.cell _ _ _ _ _ rfl (blk_put (blk_put (blk_put HBW.out 0 _ rfl) 1 _ rfl) 2 _ rfl) Tryd.underlying100 rfl (by kernel_rfl) .nil)) rfl ⟨_, _, rfl, (FN.out _ _ _).1, (FN.out _ _ _).2.1, (FN.out _ _ _).2.2⟩
  · rw [if_neg hs] at h
    cases h

/-! ### spec_DecoderFault: function 149 -/
def spec_DecoderFault.f (a0_0 : Int) (a0_1 : ByteArray) (a0_2 : Int) : Option (Int) := (spec_l02IsForm.f a0_0).bind fun t162 => (if t162 = true then (if a0_2 < 0 then (some 1) else (if a0_2 > 1000000000000 then (some 1) else (if (a0_1.size : Int) > 3 then (some 1) else ((spec_l02Decode.f a0_0 a0_1 false).bind fun bt163 => (if bt163.2.2 > 0 then (some 1) else (some 0)))))) else (some 1))
set_option maxHeartbeats 8000000 in
set_option maxRecDepth 100000 in
theorem spec_DecoderFault.calls (a0_0 : Int) (a0_1 : ByteArray) (a0_2 : Int) (r : Int) (w : World) (h : spec_DecoderFault.f a0_0 a0_1 a0_2 = some r) :
    Calls Tryd.prog 149 #[.agg #[.int .i64 a0_0, .string a0_1, .int .i64 a0_2]] w fun e w' => e = .returned (.int .i64 r) ∧ Below w.heap.size w w' := by
  have hu69 := Tryd.underlying69
  have HB := Aside0.mk (Below.refl w.heap.size w)
  have H : ((spec_l02IsForm.f a0_0).bind fun t162 => (if t162 = true then (if a0_2 < 0 then (some 1) else (if a0_2 > 1000000000000 then (some 1) else (if (a0_1.size : Int) > 3 then (some 1) else ((spec_l02Decode.f a0_0 a0_1 false).bind fun bt163 => (if bt163.2.2 > 0 then (some 1) else (some 0)))))) else (some 1))) = some r := h
  clear h
  replace H := Option.bind_eq_some_iff.mp H
  obtain ⟨t162, A20, H⟩ := H
  replace H : (if t162 = true then (if a0_2 < 0 then (some 1) else (if a0_2 > 1000000000000 then (some 1) else (if (a0_1.size : Int) > 3 then (some 1) else ((spec_l02Decode.f a0_0 a0_1 false).bind fun bt163 => (if bt163.2.2 > 0 then (some 1) else (some 0)))))) else (some 1)) = some r := H
  have A2 := Aside0.mk A20
  clear A20
  by_cases c3 : t162 = true
  · subst c3
    have H1 : (if a0_2 < 0 then (some 1) else (if a0_2 > 1000000000000 then (some 1) else (if (a0_1.size : Int) > 3 then (some 1) else ((spec_l02Decode.f a0_0 a0_1 false).bind fun bt163 => (if bt163.2.2 > 0 then (some 1) else (some 0)))))) = some r := by rw [if_pos rfl] at H; exact H
    clear H
    have H := H1
    clear H1
    by_cases c4 : a0_2 < 0
    · rw [if_pos c4] at H
      have c4b0 : decide (a0_2 < 0) = true := decide_eq_true c4
      clear c4
      obtain rfl := Option.some.inj H
      go_enter Tryd.func149, Tryd.ntmps149
      go_wp2_with (first | ((with_reducible refine gate_dst (N := 1) rfl ?_); (try (refine gate_guard (by rfl) ?_; dsimp only)); refine box_event ?hg (N := 1) ?hd (cs := #[.int .i64 a0_0, .string a0_1, .int .i64 a0_2]) (t := 69) ?hr ?_; (case hd => rfl); (case hg => rfl); (case hr => first | (go_simp; done) | (go_simp; rfl)); intro gb161 hg w5 hbox hb; have n0_ := Aside0.mk (below_step (by repeat (first | (with_reducible first | exact HB.out | apply below_alloc | apply pw_below_drewN | apply below_drew1) | exact HB.out)) hb); have n1_ := Aside0.mk (hbox); have n2_ := Aside0.mk ((by rw [hg]; exact (below_size (by repeat (first | (with_reducible first | exact HB.out | apply below_alloc | apply pw_below_drewN | apply below_drew1) | exact HB.out))) : w.heap.size ≤ gb161)); have n3_ := Aside0.mk ((by rw [hg]; exact (below_size (by repeat (first | (with_reducible first | exact HB.out | apply below_alloc | apply pw_below_drewN | apply below_drew1) | exact HB.out))) : w.heap.size ≤ gb161)); clear HB; have HB := n0_; have BK161 := n1_; have GW161 := n2_; have GE161 := n3_; clear n0_ n1_ n2_ n3_; clear hb hbox hg; have hcz6_0 : w5.cell? ⟨gb161, 0, none⟩ = some (.int .i64 a0_0) := (blk_cell BK161.out 0).trans rfl; have hcz6_1 : w5.cell? ⟨gb161, 1, none⟩ = some (.string a0_1) := (blk_cell BK161.out 1).trans rfl; have hcz6_2 : w5.cell? ⟨gb161, 2, none⟩ = some (.int .i64 a0_2) := (blk_cell BK161.out 2).trans rfl; have hfz6_0 := blk_frozen BK161.out 0; have hfz6_1 := blk_frozen BK161.out 1; have hfz6_2 := blk_frozen BK161.out 2) | ((with_reducible refine gate_callee (f := 116) rfl ?_); refine goesL_ (some 5) rfl rfl Tryd.func116 (by kernel_rfl) rfl #[.int .i64 a0_0] rfl (by (try simp only [List.map_toArray, List.map_cons, List.map_nil]); first | done | rfl | (simp only [List.length_drop, List.length_take]; rfl)) ?_; (with_reducible refine (spec_l02IsForm.calls a0_0 true _ A2.out).mono ?_); rintro e w' ⟨rfl, ⟨nd, rfl⟩⟩; refine ⟨_, rfl, ?_⟩))
      go_ret
      exact ⟨by first | rfl | (simp [errW_none, errW_some] <;> rfl) | (simp [*, errW_none, errW_some] <;> rfl), by repeat (first | (with_reducible first | exact HB.out | apply below_alloc | apply pw_below_drewN | apply below_drew1 | refine below_set ?_ GE161.out) | exact HB.out)⟩
    · rw [if_neg c4] at H
      have c4b0 : decide (a0_2 < 0) = false := decide_eq_false c4
      clear c4
      by_cases c7 : a0_2 > 1000000000000
      · rw [if_pos c7] at H
        have c7b0 : decide (1000000000000 < a0_2) = true := decide_eq_true c7
        clear c7
        obtain rfl := Option.some.inj H
        go_enter Tryd.func149, Tryd.ntmps149
        go_wp2_with (first | ((with_reducible refine gate_dst (N := 1) rfl ?_); (try (refine gate_guard (by rfl) ?_; dsimp only)); refine box_event ?hg (N := 1) ?hd (cs := #[.int .i64 a0_0, .string a0_1, .int .i64 a0_2]) (t := 69) ?hr ?_; (case hd => rfl); (case hg => rfl); (case hr => first | (go_simp; done) | (go_simp; rfl)); intro gb161 hg w8 hbox hb; have n0_ := Aside0.mk (below_step (by repeat (first | (with_reducible first | exact HB.out | apply below_alloc | apply pw_below_drewN | apply below_drew1) | exact HB.out)) hb); have n1_ := Aside0.mk (hbox); have n2_ := Aside0.mk ((by rw [hg]; exact (below_size (by repeat (first | (with_reducible first | exact HB.out | apply below_alloc | apply pw_below_drewN | apply below_drew1) | exact HB.out))) : w.heap.size ≤ gb161)); have n3_ := Aside0.mk ((by rw [hg]; exact (below_size (by repeat (first | (with_reducible first | exact HB.out | apply below_alloc | apply pw_below_drewN | apply below_drew1) | exact HB.out))) : w.heap.size ≤ gb161)); clear HB; have HB := n0_; have BK161 := n1_; have GW161 := n2_; have GE161 := n3_; clear n0_ n1_ n2_ n3_; clear hb hbox hg; have hcz9_0 : w8.cell? ⟨gb161, 0, none⟩ = some (.int .i64 a0_0) := (blk_cell BK161.out 0).trans rfl; have hcz9_1 : w8.cell? ⟨gb161, 1, none⟩ = some (.string a0_1) := (blk_cell BK161.out 1).trans rfl; have hcz9_2 : w8.cell? ⟨gb161, 2, none⟩ = some (.int .i64 a0_2) := (blk_cell BK161.out 2).trans rfl; have hfz9_0 := blk_frozen BK161.out 0; have hfz9_1 := blk_frozen BK161.out 1; have hfz9_2 := blk_frozen BK161.out 2) | ((with_reducible refine gate_callee (f := 116) rfl ?_); refine goesL_ (some 5) rfl rfl Tryd.func116 (by kernel_rfl) rfl #[.int .i64 a0_0] rfl (by (try simp only [List.map_toArray, List.map_cons, List.map_nil]); first | done | rfl | (simp only [List.length_drop, List.length_take]; rfl)) ?_; (with_reducible refine (spec_l02IsForm.calls a0_0 true _ A2.out).mono ?_); rintro e w' ⟨rfl, ⟨nd, rfl⟩⟩; refine ⟨_, rfl, ?_⟩))
        go_ret
        exact ⟨by first | rfl | (simp [errW_none, errW_some] <;> rfl) | (simp [*, errW_none, errW_some] <;> rfl), by repeat (first | (with_reducible first | exact HB.out | apply below_alloc | apply pw_below_drewN | apply below_drew1 | refine below_set ?_ GE161.out) | exact HB.out)⟩
      · rw [if_neg c7] at H
        have c7b0 : decide (1000000000000 < a0_2) = false := decide_eq_false c7
        clear c7
        by_cases c10 : (a0_1.size : Int) > 3
        · rw [if_pos c10] at H
          have c10b0 : decide (3 < (a0_1.size : Int)) = true := decide_eq_true c10
          have c10b1 : decide (3 < a0_1.size) = true := decide_eq_true (by omega)
          clear c10
          obtain rfl := Option.some.inj H
          go_enter Tryd.func149, Tryd.ntmps149
          go_wp2_with (first | ((with_reducible refine gate_dst (N := 1) rfl ?_); (try (refine gate_guard (by rfl) ?_; dsimp only)); refine box_event ?hg (N := 1) ?hd (cs := #[.int .i64 a0_0, .string a0_1, .int .i64 a0_2]) (t := 69) ?hr ?_; (case hd => rfl); (case hg => rfl); (case hr => first | (go_simp; done) | (go_simp; rfl)); intro gb161 hg w11 hbox hb; have n0_ := Aside0.mk (below_step (by repeat (first | (with_reducible first | exact HB.out | apply below_alloc | apply pw_below_drewN | apply below_drew1) | exact HB.out)) hb); have n1_ := Aside0.mk (hbox); have n2_ := Aside0.mk ((by rw [hg]; exact (below_size (by repeat (first | (with_reducible first | exact HB.out | apply below_alloc | apply pw_below_drewN | apply below_drew1) | exact HB.out))) : w.heap.size ≤ gb161)); have n3_ := Aside0.mk ((by rw [hg]; exact (below_size (by repeat (first | (with_reducible first | exact HB.out | apply below_alloc | apply pw_below_drewN | apply below_drew1) | exact HB.out))) : w.heap.size ≤ gb161)); clear HB; have HB := n0_; have BK161 := n1_; have GW161 := n2_; have GE161 := n3_; clear n0_ n1_ n2_ n3_; clear hb hbox hg; have hcz12_0 : w11.cell? ⟨gb161, 0, none⟩ = some (.int .i64 a0_0) := (blk_cell BK161.out 0).trans rfl; have hcz12_1 : w11.cell? ⟨gb161, 1, none⟩ = some (.string a0_1) := (blk_cell BK161.out 1).trans rfl; have hcz12_2 : w11.cell? ⟨gb161, 2, none⟩ = some (.int .i64 a0_2) := (blk_cell BK161.out 2).trans rfl; have hfz12_0 := blk_frozen BK161.out 0; have hfz12_1 := blk_frozen BK161.out 1; have hfz12_2 := blk_frozen BK161.out 2) | ((with_reducible refine gate_callee (f := 116) rfl ?_); refine goesL_ (some 5) rfl rfl Tryd.func116 (by kernel_rfl) rfl #[.int .i64 a0_0] rfl (by (try simp only [List.map_toArray, List.map_cons, List.map_nil]); first | done | rfl | (simp only [List.length_drop, List.length_take]; rfl)) ?_; (with_reducible refine (spec_l02IsForm.calls a0_0 true _ A2.out).mono ?_); rintro e w' ⟨rfl, ⟨nd, rfl⟩⟩; refine ⟨_, rfl, ?_⟩))
          go_ret
          exact ⟨by first | rfl | (simp [errW_none, errW_some] <;> rfl) | (simp [*, errW_none, errW_some] <;> rfl), by repeat (first | (with_reducible first | exact HB.out | apply below_alloc | apply pw_below_drewN | apply below_drew1 | refine below_set ?_ GE161.out) | exact HB.out)⟩
        · rw [if_neg c10] at H
          have c10b0 : decide (3 < (a0_1.size : Int)) = false := decide_eq_false c10
          have c10b1 : decide (3 < a0_1.size) = false := decide_eq_false (by omega)
          clear c10
          replace H := Option.bind_eq_some_iff.mp H
          obtain ⟨⟨t163, t166, t169⟩, A130, H⟩ := H
          replace H : (if t169 > 0 then (some 1) else (some 0)) = some r := H
          have A13 := Aside0.mk A130
          clear A130
          by_cases c14 : t169 > 0
          · rw [if_pos c14] at H
            have c14b0 : decide (0 < t169) = true := decide_eq_true c14
            clear c14
            obtain rfl := Option.some.inj H
            go_enter Tryd.func149, Tryd.ntmps149
            go_wp2_with (first | ((with_reducible refine gate_dst (N := 1) rfl ?_); (try (refine gate_guard (by rfl) ?_; dsimp only)); refine box_event ?hg (N := 1) ?hd (cs := #[.int .i64 a0_0, .string a0_1, .int .i64 a0_2]) (t := 69) ?hr ?_; (case hd => rfl); (case hg => rfl); (case hr => first | (go_simp; done) | (go_simp; rfl)); intro gb161 hg w15 hbox hb; have n0_ := Aside0.mk (below_step (by repeat (first | (with_reducible first | exact HB.out | apply below_alloc | apply pw_below_drewN | apply below_drew1) | exact HB.out)) hb); have n1_ := Aside0.mk (hbox); have n2_ := Aside0.mk ((by rw [hg]; exact (below_size (by repeat (first | (with_reducible first | exact HB.out | apply below_alloc | apply pw_below_drewN | apply below_drew1) | exact HB.out))) : w.heap.size ≤ gb161)); have n3_ := Aside0.mk ((by rw [hg]; exact (below_size (by repeat (first | (with_reducible first | exact HB.out | apply below_alloc | apply pw_below_drewN | apply below_drew1) | exact HB.out))) : w.heap.size ≤ gb161)); clear HB; have HB := n0_; have BK161 := n1_; have GW161 := n2_; have GE161 := n3_; clear n0_ n1_ n2_ n3_; clear hb hbox hg; have hcz16_0 : w15.cell? ⟨gb161, 0, none⟩ = some (.int .i64 a0_0) := (blk_cell BK161.out 0).trans rfl; have hcz16_1 : w15.cell? ⟨gb161, 1, none⟩ = some (.string a0_1) := (blk_cell BK161.out 1).trans rfl; have hcz16_2 : w15.cell? ⟨gb161, 2, none⟩ = some (.int .i64 a0_2) := (blk_cell BK161.out 2).trans rfl; have hfz16_0 := blk_frozen BK161.out 0; have hfz16_1 := blk_frozen BK161.out 1; have hfz16_2 := blk_frozen BK161.out 2) | ((with_reducible refine gate_callee (f := 116) rfl ?_); refine goesL_ (some 5) rfl rfl Tryd.func116 (by kernel_rfl) rfl #[.int .i64 a0_0] rfl (by (try simp only [List.map_toArray, List.map_cons, List.map_nil]); first | done | rfl | (simp only [List.length_drop, List.length_take]; rfl)) ?_; (with_reducible refine (spec_l02IsForm.calls a0_0 true _ A2.out).mono ?_); rintro e w' ⟨rfl, ⟨nd, rfl⟩⟩; refine ⟨_, rfl, ?_⟩) | (go_at_call 117; (with_reducible refine (spec_l02Decode.calls a0_0 a0_1 false t163 t166 t169 _ A13.out).mono ?_); rintro e w17 ⟨v164, v167, rfl, ho0, ho1, hb⟩; have hfav164 := fun n W => spec_l02Decode.fieldA ho0 ho1 n W; have hfbv164 := fun n W => spec_l02Decode.fieldB ho0 ho1 n W; have hfcv164 := fun n W => spec_l02Decode.fieldC ho0 ho1 n W; have n0_ := Aside0.mk (Kd.R_lower ho0 (below_size (by repeat (first | (with_reducible first | exact HB.out | apply below_alloc | apply pw_below_drewN | apply below_drew1 | refine below_set ?_ GE161.out) | exact HB.out)))); have n1_ := Aside0.mk (Kd.R_lower ho1 (below_size (by repeat (first | (with_reducible first | exact HB.out | apply below_alloc | apply pw_below_drewN | apply below_drew1 | refine below_set ?_ GE161.out) | exact HB.out)))); have n2_ := Aside0.mk (blk_below (g := gb161) (o := .cells #[.int .i64 a0_0, .string a0_1, .int .i64 a0_2] 69 (0, 0)) (by (with_reducible repeat (first | refine blk_drewN ?_ _ | refine blk_drew ?_ | refine blk_alloc ?_ _)); exact BK161.out) hb); have n3_ := Aside0.mk (below_step (by repeat (first | (with_reducible first | exact HB.out | apply below_alloc | apply pw_below_drewN | apply below_drew1 | refine below_set ?_ GE161.out) | exact HB.out)) hb); clear BK161; clear HB; have HO165 := n0_; have HO168 := n1_; have BK161 := n2_; have HB := n3_; clear n0_ n1_ n2_ n3_; (try clear hb); (try clear hb2); (try clear hk); (try clear hi); (try clear ho0); (try clear ho1)))
            go_ret
            exact ⟨by first | rfl | (simp [errW_none, errW_some] <;> rfl) | (simp [*, errW_none, errW_some] <;> rfl), by repeat (first | (with_reducible first | exact HB.out | apply below_alloc | apply pw_below_drewN | apply below_drew1 | refine below_set ?_ GE161.out) | exact HB.out)⟩
          · rw [if_neg c14] at H
            have c14b0 : decide (0 < t169) = false := decide_eq_false c14
            clear c14
            obtain rfl := Option.some.inj H
            go_enter Tryd.func149, Tryd.ntmps149
            go_wp2_with (first | ((with_reducible refine gate_dst (N := 1) rfl ?_); (try (refine gate_guard (by rfl) ?_; dsimp only)); refine box_event ?hg (N := 1) ?hd (cs := #[.int .i64 a0_0, .string a0_1, .int .i64 a0_2]) (t := 69) ?hr ?_; (case hd => rfl); (case hg => rfl); (case hr => first | (go_simp; done) | (go_simp; rfl)); intro gb161 hg w18 hbox hb; have n0_ := Aside0.mk (below_step (by repeat (first | (with_reducible first | exact HB.out | apply below_alloc | apply pw_below_drewN | apply below_drew1) | exact HB.out)) hb); have n1_ := Aside0.mk (hbox); have n2_ := Aside0.mk ((by rw [hg]; exact (below_size (by repeat (first | (with_reducible first | exact HB.out | apply below_alloc | apply pw_below_drewN | apply below_drew1) | exact HB.out))) : w.heap.size ≤ gb161)); have n3_ := Aside0.mk ((by rw [hg]; exact (below_size (by repeat (first | (with_reducible first | exact HB.out | apply below_alloc | apply pw_below_drewN | apply below_drew1) | exact HB.out))) : w.heap.size ≤ gb161)); clear HB; have HB := n0_; have BK161 := n1_; have GW161 := n2_; have GE161 := n3_; clear n0_ n1_ n2_ n3_; clear hb hbox hg; have hcz19_0 : w18.cell? ⟨gb161, 0, none⟩ = some (.int .i64 a0_0) := (blk_cell BK161.out 0).trans rfl; have hcz19_1 : w18.cell? ⟨gb161, 1, none⟩ = some (.string a0_1) := (blk_cell BK161.out 1).trans rfl; have hcz19_2 : w18.cell? ⟨gb161, 2, none⟩ = some (.int .i64 a0_2) := (blk_cell BK161.out 2).trans rfl; have hfz19_0 := blk_frozen BK161.out 0; have hfz19_1 := blk_frozen BK161.out 1; have hfz19_2 := blk_frozen BK161.out 2) | ((with_reducible refine gate_callee (f := 116) rfl ?_); refine goesL_ (some 5) rfl rfl Tryd.func116 (by kernel_rfl) rfl #[.int .i64 a0_0] rfl (by (try simp only [List.map_toArray, List.map_cons, List.map_nil]); first | done | rfl | (simp only [List.length_drop, List.length_take]; rfl)) ?_; (with_reducible refine (spec_l02IsForm.calls a0_0 true _ A2.out).mono ?_); rintro e w' ⟨rfl, ⟨nd, rfl⟩⟩; refine ⟨_, rfl, ?_⟩) | (go_at_call 117; (with_reducible refine (spec_l02Decode.calls a0_0 a0_1 false t163 t166 t169 _ A13.out).mono ?_); rintro e w20 ⟨v164, v167, rfl, ho0, ho1, hb⟩; have hfav164 := fun n W => spec_l02Decode.fieldA ho0 ho1 n W; have hfbv164 := fun n W => spec_l02Decode.fieldB ho0 ho1 n W; have hfcv164 := fun n W => spec_l02Decode.fieldC ho0 ho1 n W; have n0_ := Aside0.mk (Kd.R_lower ho0 (below_size (by repeat (first | (with_reducible first | exact HB.out | apply below_alloc | apply pw_below_drewN | apply below_drew1 | refine below_set ?_ GE161.out) | exact HB.out)))); have n1_ := Aside0.mk (Kd.R_lower ho1 (below_size (by repeat (first | (with_reducible first | exact HB.out | apply below_alloc | apply pw_below_drewN | apply below_drew1 | refine below_set ?_ GE161.out) | exact HB.out)))); have n2_ := Aside0.mk (blk_below (g := gb161) (o := .cells #[.int .i64 a0_0, .string a0_1, .int .i64 a0_2] 69 (0, 0)) (by (with_reducible repeat (first | refine blk_drewN ?_ _ | refine blk_drew ?_ | refine blk_alloc ?_ _)); exact BK161.out) hb); have n3_ := Aside0.mk (below_step (by repeat (first | (with_reducible first | exact HB.out | apply below_alloc | apply pw_below_drewN | apply below_drew1 | refine below_set ?_ GE161.out) | exact HB.out)) hb); clear BK161; clear HB; have HO165 := n0_; have HO168 := n1_; have BK161 := n2_; have HB := n3_; clear n0_ n1_ n2_ n3_; (try clear hb); (try clear hb2); (try clear hk); (try clear hi); (try clear ho0); (try clear ho1)))
            go_ret
            exact ⟨by first | rfl | (simp [errW_none, errW_some] <;> rfl) | (simp [*, errW_none, errW_some] <;> rfl), by repeat (first | (with_reducible first | exact HB.out | apply below_alloc | apply pw_below_drewN | apply below_drew1 | refine below_set ?_ GE161.out) | exact HB.out)⟩
  · replace c3 := Bool.eq_false_iff.mpr c3
    subst c3
    have H1 : (some 1) = some r := by rw [if_neg (show ¬ (false = true) by decide)] at H; exact H
    clear H
    have H := H1
    clear H1
    obtain rfl := Option.some.inj H
    go_enter Tryd.func149, Tryd.ntmps149
    go_wp2_with (first | ((with_reducible refine gate_dst (N := 1) rfl ?_); (try (refine gate_guard (by rfl) ?_; dsimp only)); refine box_event ?hg (N := 1) ?hd (cs := #[.int .i64 a0_0, .string a0_1, .int .i64 a0_2]) (t := 69) ?hr ?_; (case hd => rfl); (case hg => rfl); (case hr => first | (go_simp; done) | (go_simp; rfl)); intro gb161 hg w21 hbox hb; have n0_ := Aside0.mk (below_step (by repeat (first | (with_reducible first | exact HB.out | apply below_alloc | apply pw_below_drewN | apply below_drew1) | exact HB.out)) hb); have n1_ := Aside0.mk (hbox); have n2_ := Aside0.mk ((by rw [hg]; exact (below_size (by repeat (first | (with_reducible first | exact HB.out | apply below_alloc | apply pw_below_drewN | apply below_drew1) | exact HB.out))) : w.heap.size ≤ gb161)); have n3_ := Aside0.mk ((by rw [hg]; exact (below_size (by repeat (first | (with_reducible first | exact HB.out | apply below_alloc | apply pw_below_drewN | apply below_drew1) | exact HB.out))) : w.heap.size ≤ gb161)); clear HB; have HB := n0_; have BK161 := n1_; have GW161 := n2_; have GE161 := n3_; clear n0_ n1_ n2_ n3_; clear hb hbox hg; have hcz22_0 : w21.cell? ⟨gb161, 0, none⟩ = some (.int .i64 a0_0) := (blk_cell BK161.out 0).trans rfl; have hcz22_1 : w21.cell? ⟨gb161, 1, none⟩ = some (.string a0_1) := (blk_cell BK161.out 1).trans rfl; have hcz22_2 : w21.cell? ⟨gb161, 2, none⟩ = some (.int .i64 a0_2) := (blk_cell BK161.out 2).trans rfl; have hfz22_0 := blk_frozen BK161.out 0; have hfz22_1 := blk_frozen BK161.out 1; have hfz22_2 := blk_frozen BK161.out 2) | ((with_reducible refine gate_callee (f := 116) rfl ?_); refine goesL_ (some 5) rfl rfl Tryd.func116 (by kernel_rfl) rfl #[.int .i64 a0_0] rfl (by (try simp only [List.map_toArray, List.map_cons, List.map_nil]); first | done | rfl | (simp only [List.length_drop, List.length_take]; rfl)) ?_; (with_reducible refine (spec_l02IsForm.calls a0_0 false _ A2.out).mono ?_); rintro e w' ⟨rfl, ⟨nd, rfl⟩⟩; refine ⟨_, rfl, ?_⟩))
    go_ret
    exact ⟨by first | rfl | (simp [errW_none, errW_some] <;> rfl) | (simp [*, errW_none, errW_some] <;> rfl), by repeat (first | (with_reducible first | exact HB.out | apply below_alloc | apply pw_below_drewN | apply below_drew1 | refine below_set ?_ GE161.out) | exact HB.out)⟩

/-! ### spec_l01Text: function 107 -/
def spec_l01Text.l0 : Nat → List Int → List Int → Int → Option (ByteArray)
  | 0, _, _, _ => none
  | k + 1, x0, x3, x4 => if x4 < (x0.length : Int) then (if 0 ≤ x4 then ((W_spec_l01Write.f (rd x0 x4)).bind fun t174 => (if x3.length + t174.size < 140737488355328 then (spec_l01Text.l0 k x0 (x3 ++ bytesOf t174) (wrap64 (x4 + 1))) else (none))) else (none)) else (some (strOfNums x3))
def spec_l01Text.f (k : Nat) (l0 : List Int) : Option (ByteArray) := spec_l01Text.l0 k l0 (([] : List Int)) 0
theorem spec_l01Text.mono_l : ∀ k, (∀ y0 y1 y2, LeO (spec_l01Text.l0 k y0 y1 y2) (spec_l01Text.l0 (k + 1) y0 y1 y2))
  | 0 => fun _ _ _ r h => by simp [spec_l01Text.l0] at h
  | k + 1 => by
    have ih0 := spec_l01Text.mono_l k
    · intro y0 y1 y2
      unfold spec_l01Text.l0
      repeat' first
      | (with_reducible exact ih0 _ _ _)
      | (with_reducible exact LeO.refl _)
      | (with_reducible exact LeO.none _)
      | (with_reducible refine LeO.ite ?_ ?_)
      | (with_reducible refine LeO.bind ?_ (fun _ => ?_))
      | exact ih0 _ _ _
      | exact LeO.none _
      | refine LeO.ite ?_ ?_
      | refine LeO.bind ?_ (fun _ => ?_)
theorem spec_l01Text.mono : ∀ a0 k, LeO (spec_l01Text.f k a0) (spec_l01Text.f (k + 1) a0) := by
  intro a0 k
  have ih0 := spec_l01Text.mono_l k
  unfold spec_l01Text.f
  repeat' first
      | (with_reducible exact ih0 _ _ _)
      | (with_reducible exact LeO.refl _)
      | (with_reducible exact LeO.none _)
      | (with_reducible refine LeO.ite ?_ ?_)
      | (with_reducible refine LeO.bind ?_ (fun _ => ?_))
      | exact ih0 _ _ _
      | exact LeO.none _
      | refine LeO.ite ?_ ?_
      | refine LeO.bind ?_ (fun _ => ?_)
set_option maxHeartbeats 8000000 in
set_option maxRecDepth 100000 in
theorem spec_l01Text.calls (k : Nat) (A0 : Option Addr) (c0 : Nat) (l0 : List Int) (r : ByteArray) (w : World) (hr0 : Kd.C (Kd.int .i64) w A0 l0.length l0) (hc0 : l0.length ≤ c0) (h : spec_l01Text.f k l0 = some r) :
    Calls Tryd.prog 107 #[.slice A0 l0.length c0] w fun e w' => e = .returned (.string r) ∧ Below w.heap.size w w' := by
  have HR0 := Aside0.mk hr0
  have HC0 := Aside0.mk hc0
  clear hr0 hc0
  have HB := Aside0.mk (Below.refl w.heap.size w)
  have H : (spec_l01Text.l0 k l0 (([] : List Int)) 0) = some r := h
  clear h
  obtain ⟨y170, hy170⟩ : ∃ y_ : List Int, y_ = (([] : List Int)) := ⟨_, rfl⟩
  replace H : (spec_l01Text.l0 k l0 y170 0) = some r := by first | (rw [hy170]; with_reducible exact H) | (have H2_ := (Option.bind_some _ _).symm.trans H; rw [hy170]; with_reducible exact H2_) | (have H2_ := (Option.bind_some _ _).symm.trans H; with_reducible exact H2_) | with_reducible exact H | (rw [hy170]; exact H) | exact H
  have Ny170 := Aside0.mk hy170
  clear hy170
  have H' := Aside0.mk H
  clear H
  go_enter Tryd.func107, Tryd.ntmps107
  go_wp2_with (first | ((with_reducible refine gate_dst (N := 5) rfl ?_); refine Kd.R_lit (Kd.int .u8) _ 5 ?hg (N := 5) ?hd (xs := ([] : List Int)) (inner := []) (ok := fun _ => True) (okp := fun _ => True) ?hr ?hp (fun _ hk => hk) trivial (Below.refl _ _) (Nat.le_refl _) (by simp) ?_; (case hd => rfl); (case hg => rfl); (case hr => first | (go_simp; done) | (go_simp; rfl)); (case hp => exact (Reps.none _ _)); intro v171 w2 ho3 hb hg_ hnew_; clear hg_ hnew_; (first | rw [← Ny170.out] at ho3 | (simp only [Int.reduceToNat] at ho3; rw [← Ny170.out] at ho3)); have n0_ := Aside0.mk (Kd.R_lower ho3 (below_size (by repeat (first | (with_reducible first | exact HB.out | apply below_alloc | apply pw_below_drewN | apply below_drew1) | exact HB.out)))); have n1_ := Aside0.mk (below_step (by repeat (first | (with_reducible first | exact HB.out | apply below_alloc | apply pw_below_drewN | apply below_drew1) | exact HB.out)) hb); clear HB; have HO172 := n0_; have HB := n1_; clear n0_ n1_; clear hb ho3))
  go_loopg [3, 4] k (fun kq v3 v4 w' => ∃ (x3_1 : List Int) (x4_1 : Int), v4 = .int .i64 x4_1 ∧ Aside0 (spec_l01Text.l0 kq l0 x3_1 x4_1 = some r) ∧ Aside0 (kq ≤ k) ∧ Aside0 (Kd.R (Kd.int .u8) 5 w' w.heap.size (fun _ => True) v3 x3_1) ∧ Aside0 (Below w.heap.size w w'))
  case atStart => exact ⟨(y170), (0), (by first | rfl | (simp; done) | (simp [*]; done)), H', ⟨Nat.le_refl _⟩, ⟨by (with_reducible repeat (first | apply Kd.R_alloc | apply Kd.R_drewN | apply Kd.R_drew)); exact HO172.out⟩, ⟨by repeat (first | (with_reducible first | exact HB.out | apply below_alloc | apply pw_below_drewN | apply below_drew1) | exact HB.out)⟩⟩
  case round =>
    clear H'
    try clear c1
    try clear p2
    obtain ⟨x3_1, x4_1, rfl, HA, HK1, HO_3, HB⟩ := hrel
    cases gk with
    | zero => exact absurd HA.out (by simp [spec_l01Text.l0])
    | succ k1 =>
      have H := HA.out
      clear HA
      simp only [spec_l01Text.l0] at H
      by_cases c4 : x4_1 < (l0.length : Int)
      · rw [if_pos c4] at H
        have c4b0 : decide (x4_1 < (l0.length : Int)) = true := decide_eq_true c4
        clear c4
        by_cases c5 : 0 ≤ x4_1
        · rw [if_pos c5] at H
          have c5b0 : decide (0 ≤ x4_1) = true := decide_eq_true c5
          clear c5
          replace H := Option.bind_eq_some_iff.mp H
          obtain ⟨t174, A60, H⟩ := H
          replace H : (if x3_1.length + t174.size < 140737488355328 then (spec_l01Text.l0 k1 l0 (x3_1 ++ bytesOf t174) (wrap64 (x4_1 + 1))) else (none)) = some r := H
          have A6 := Aside0.mk A60
          clear A60
          by_cases c7 : x3_1.length + t174.size < 140737488355328
          · rw [if_pos c7] at H
            have LMc7 := Aside0.mk c7
            clear c7
            obtain ⟨y175, hy175⟩ : ∃ y_ : List Int, y_ = (x3_1 ++ bytesOf t174) := ⟨_, rfl⟩
            replace H : (spec_l01Text.l0 k1 l0 y175 (wrap64 (x4_1 + 1))) = some r := by first | (rw [hy175]; with_reducible exact H) | (have H2_ := (Option.bind_some _ _).symm.trans H; rw [hy175]; with_reducible exact H2_) | (have H2_ := (Option.bind_some _ _).symm.trans H; with_reducible exact H2_) | with_reducible exact H | (rw [hy175]; exact H) | exact H
            have Ny175 := Aside0.mk hy175
            clear hy175
            have H' := Aside0.mk H
            clear H
            have p173 : 0 ≤ (x4_1 : Int) := of_decide_eq_true (by first | (with_reducible assumption) | assumption)
            have q173 : x4_1 < (l0.length : Int) := of_decide_eq_true (by first | (with_reducible assumption) | assumption)
            obtain ⟨ad173, e173, hx173_0⟩ := Kd.at_int HR0.out x4_1 p173 q173
            cases e173
            replace hx173_0 := (HB.out.cell (World.block_lt_of_cell? w _ hx173_0)).trans hx173_0
            replace p173 := eq_true p173
            replace q173 := eq_true q173
            go_wp2_with (first | ((with_reducible refine gate_callee (f := 93) rfl ?_); refine goesL_ (some 17) rfl rfl Tryd.func93 (by kernel_rfl) rfl #[.int .i64 (rd l0 x4_1)] rfl (by (try simp only [List.map_toArray, List.map_cons, List.map_nil]); first | done | rfl | (simp only [List.length_drop, List.length_take]; rfl)) ?_; (with_reducible refine (W_spec_l01Write.calls (rd l0 x4_1) t174 _ A6.out).mono ?_); rintro e w8 ⟨rfl, hb⟩; refine ⟨_, rfl, ?_⟩; have n0_ := Aside0.mk (Kd.R_below (by (with_reducible repeat (first | apply Kd.R_alloc | apply Kd.R_drewN | apply Kd.R_drew)); exact HO_3.out) hb); have n1_ := Aside0.mk (below_step (by repeat (first | (with_reducible first | exact HB.out | apply below_alloc | apply pw_below_drewN | apply below_drew1) | exact HB.out)) hb); clear HO_3; clear HB; have HO_3 := n0_; have HB := n1_; clear n0_ n1_; (try clear hb); (try clear hb2); (try clear hk); (try clear hi)) | (at_builtin; refine print_append_str (w0 := w) w.heap.size rfl (.tmp 12) _ 22 9 5 rfl Tryd.underlying22 Tryd.underlying9 info5 u3 x3_1 t174 rfl rfl ?aO ?aB ?aS ?aL ?_; (case aB => exact (by repeat (first | (with_reducible first | exact HB.out | apply below_alloc | apply pw_below_drewN | apply below_drew1) | exact HB.out))); (case aO => exact (Kd.own_of_R (by (with_reducible repeat (first | apply Kd.R_alloc | apply Kd.R_drewN | apply Kd.R_drew)); exact HO_3.out))); (case aS => exact (below_size (by repeat (first | (with_reducible first | exact HB.out | apply below_alloc | apply pw_below_drewN | apply below_drew1) | exact HB.out)))); (case aL => have := LMc7.out; omega); intro v176 w9 ho0 hb hg; have ho := Kd.R_of_own (h1 := fun _ => rfl) (ok := fun _ => True) ho0 (fun _ _ => trivial); clear ho0; have hat := True.intro; rw [← Ny175.out] at ho; change Kd.R (Kd.int .u8) 5 w9 w.heap.size (fun _ => True) v176 y175 at ho; have n0_ := Aside0.mk (hb); have n1_ := Aside0.mk (ho); clear HB; clear HO_3; have HB := n0_; have HO177 := n1_; clear n0_ n1_; clear ho hb hg hat))
            go_roundg k1
            case measure => have := HK1.out; omega
            case rel => exact ⟨(y175), (wrap64 (x4_1 + 1)), (by first | rfl | (simp; done) | (simp [*]; done)), H', ⟨by have := HK1.out; omega⟩, ⟨by (with_reducible repeat (first | apply Kd.R_alloc | apply Kd.R_drewN | apply Kd.R_drew)); exact HO177.out⟩, ⟨by repeat (first | (with_reducible first | exact HB.out | apply below_alloc | apply pw_below_drewN | apply below_drew1) | exact HB.out)⟩⟩
          · rw [if_neg c7] at H
            exact absurd H (by simp)
        · rw [if_neg c5] at H
          exact absurd H (by simp)
      · rw [if_neg c4] at H
        have c4b0 : decide (x4_1 < (l0.length : Int)) = false := decide_eq_false c4
        clear c4
        obtain rfl := Option.some.inj H
        have hcv10 := own_string (P := Tryd.prog) Tryd.underlying22 Tryd.underlying5 Tryd.underlying9 (Kd.own_of_R HO_3.out)
        go_wp2
        go_ret
        exact ⟨by first | rfl | (simp [errW_none, errW_some] <;> rfl) | (simp [*, errW_none, errW_some] <;> rfl), by repeat (first | (with_reducible first | exact HB.out | apply below_alloc | apply pw_below_drewN | apply below_drew1) | exact HB.out)⟩

def W_spec_l01Text.f (l0 : List Int) : Option (ByteArray) := if l0.length ≤ 1099511627776 then some (strOfNums (YtnonijganceneaaDoorPts.encs l0)) else none
theorem spec_l01Text.run (l : List Int) (hl : l.length ≤ 1099511627776) (d : Nat) : ∀ (k i : Nat), i ≤ l.length → l.length - i = d → d < k →
    spec_l01Text.l0 k l (YtnonijganceneaaDoorPts.encs (l.take i)) (i : Int) = some (strOfNums (YtnonijganceneaaDoorPts.encs l)) := by
  induction d with
  | zero =>
    intro k i h1 h2 h3
    obtain ⟨k, rfl⟩ : ∃ m, k = m + 1 := ⟨k - 1, by omega⟩
    simp only [spec_l01Text.l0]
    rw [if_neg (by omega), List.take_of_length_le (by omega)]
  | succ d ih =>
    intro k i h1 h2 h3
    obtain ⟨k, rfl⟩ : ∃ m, k = m + 1 := ⟨k - 1, by omega⟩
    have hlt : i < l.length := by omega
    simp only [spec_l01Text.l0]
    rw [if_pos (by omega), if_pos (by omega)]
    have hw : wrap64 ((i : Int) + 1) = ((i + 1 : Nat) : Int) := by unfold wrap64; omega
    have hr : rd l (i : Int) = l[i] := by simp [rd, List.getD, hlt]
    have hb : bytesOf (strOfNums (YtnonijganceneaaDoorPts.enc l[i])) = YtnonijganceneaaDoorPts.enc l[i] := YtnonijganceneaaDoorPts.bytesOf_strOfNums (YtnonijganceneaaDoorPts.enc_bytes _)
    have ht : YtnonijganceneaaDoorPts.encs (l.take (i + 1)) = YtnonijganceneaaDoorPts.encs (l.take i) ++ YtnonijganceneaaDoorPts.enc l[i] := by
      rw [List.take_succ_eq_append_getElem hlt, YtnonijganceneaaDoorPts.encs_append]
      simp [YtnonijganceneaaDoorPts.encs]
    have hlen := YtnonijganceneaaDoorPts.encs_length (l.take i)
    rw [List.length_take] at hlen
    have hone := YtnonijganceneaaDoorPts.enc_length l[i]
    rw [hr]
    unfold W_spec_l01Write.f
    simp only [Option.bind_some]
    rw [hb, strOfNums_size, if_pos (by omega), hw, ← ht]
    exact ih k (i + 1) (by omega) (by omega) (by omega)
theorem W_spec_l01Text.to {l0 : List Int} {r : ByteArray} (h : W_spec_l01Text.f l0 = some r) : ∃ k, spec_l01Text.f k l0 = some r := by
  unfold W_spec_l01Text.f at h
  split at h
  · rename_i hl
    refine ⟨l0.length + 1, ?_⟩
    rw [← h]
    exact spec_l01Text.run l0 hl l0.length (l0.length + 1) 0 (by omega) (by omega) (by omega)
  · cases h
theorem W_spec_l01Text.calls (A0 : Option Addr) (c0 : Nat) (l0 : List Int) (r : ByteArray) (w : World) (hr0 : Kd.C (Kd.int .i64) w A0 l0.length l0) (hc0 : l0.length ≤ c0) (h : W_spec_l01Text.f l0 = some r) :
    Calls Tryd.prog 107 #[.slice A0 l0.length c0] w fun e w' => e = .returned (.string r) ∧ Below w.heap.size w w' := by
  obtain ⟨k, hk⟩ := W_spec_l01Text.to h
  exact spec_l01Text.calls k A0 c0 l0 r w hr0 hc0 hk

end Go.Proofs.YtnonijganceneaaDoor.QFnExactEndDecoder
