/- The law FnExactDetect: at every input the call answers true (this text: contracts on its way, by a program of this session's; no condition of ours). -/
import Derived.Test.YtphjfenhnhfakaaDoorQFnExactDetectx0
import Derived.Test.YtphjfenhnhfakaaDoorQFnExactDetectx1
import Derived.Test.YtphjfenhnhfakaaDoorQFnExactDetectx4
import Derived.Test.YtphjfenhnhfakaaDoorQFnExactDetectx7
import Derived.Test.YtphjfenhnhfakaaDoorQFnExactDetectx8
import Derived.Test.YtphjfenhnhfakaaDoorQFnExactDetectx9
namespace Go.Proofs.YtphjfenhnhfakaaDoor.QFnExactDetect
open Go.RowKit Go.Proofs.YtphjfenhnhfakaaDoorW.PrintWords Go.Proofs.YtphjfenhnhfakaaDoorW.PrintLast Go.Proofs.YtphjfenhnhfakaaDoorW.PrintMore
attribute [local go_sem] max2_int min2_int max_two min_two max_three min_three max_four min_four   -- for this text's walks alone
set_option linter.unusedVariables false
set_option linter.unusedSimpArgs false

/-! ### spec_l02Decode: function 46 (by hand) -/
theorem spec_l02Decode.fieldA {e1 e2 : Nat} {w1 w2 : World} {b1 b2 : Nat} {o1 o2 : Nat → Prop} {v u : Value} {x y : List Int} (h1 : Kd.R (Kd.int .i64) e1 w1 b1 o1 v x) (h2 : Kd.R (Kd.int .i64) e2 w2 b2 o2 u y) (n : Int) (W : World) : (Instr.field 58 (.agg #[v, u, .int .i64 n]) 0).run Tryd.prog W = .ok v W := by
  obtain ⟨A, c, rfl⟩ := Kd.R_slice h1
  obtain ⟨A, c, rfl⟩ := Kd.R_slice h2
  kernel_rfl
theorem spec_l02Decode.fieldB {e1 e2 : Nat} {w1 w2 : World} {b1 b2 : Nat} {o1 o2 : Nat → Prop} {v u : Value} {x y : List Int} (h1 : Kd.R (Kd.int .i64) e1 w1 b1 o1 v x) (h2 : Kd.R (Kd.int .i64) e2 w2 b2 o2 u y) (n : Int) (W : World) : (Instr.field 58 (.agg #[v, u, .int .i64 n]) 1).run Tryd.prog W = .ok u W := by
  obtain ⟨A, c, rfl⟩ := Kd.R_slice h1
  obtain ⟨A, c, rfl⟩ := Kd.R_slice h2
  kernel_rfl
theorem spec_l02Decode.fieldC {e1 e2 : Nat} {w1 w2 : World} {b1 b2 : Nat} {o1 o2 : Nat → Prop} {v u : Value} {x y : List Int} (h1 : Kd.R (Kd.int .i64) e1 w1 b1 o1 v x) (h2 : Kd.R (Kd.int .i64) e2 w2 b2 o2 u y) (n : Int) (W : World) : (Instr.field 58 (.agg #[v, u, .int .i64 n]) 2).run Tryd.prog W = .ok (.int .i64 n) W := by
  obtain ⟨A, c, rfl⟩ := Kd.R_slice h1
  obtain ⟨A, c, rfl⟩ := Kd.R_slice h2
  kernel_rfl
def spec_l02Decode.f (a0 : Int) (a1 : ByteArray) (a2 : Bool) : Option (List Int × List Int × Int) := if a1.size ≤ 1099511627776 then some (YtphjfenhnhfakaaDoorDec.dall a0 a2 (bytesOf a1) 0) else none
theorem spec_l02Decode.ends {W W1 : World} {base base' g : Nat} {vp vb : Value} {p b : List Int} (h : Kd.R (Kd.int .i64) 2 W base (fun k => k ≠ g) vp p) (hq : Kd.R (Kd.int .i64) 2 W base (fun k => k ≠ g ∧ some k ≠ vp.ownBlock) vb b) (hm : ∀ k, base ≤ k → W1.heap[k]? = W.heap[k]?) (hb : base' ≤ base) :
    Kd.R (Kd.int .i64) 2 W1 base' (fun k_ => some k_ ≠ vb.ownBlock) vp p ∧ Kd.R (Kd.int .i64) 2 W1 base' (fun k_ => some k_ ≠ vp.ownBlock) vb b := by
  have h1 := Kd.R_lower (Kd.R_move (Kd.R_bound h) (fun k hk => hm k hk.2.1)) hb
  have h2 := Kd.R_lower (Kd.R_move (Kd.R_bound hq) (fun k hk => hm k hk.2.1)) hb
  exact ⟨Kd.R_of_own (Kd.own_of_R h1) (fun k hk e => (hq.1 k e.symm).2 hk.symm), Kd.R_of_own (Kd.own_of_R h2) (fun k hk => (hq.1 k hk).2)⟩
theorem spec_l02Decode.fin {w w1 w2 : World} {o : Obj} {g : Nat} {vp vb : Value} {p b : List Int} (hw1 : w.alloc o = w1) (hB : Below w1.heap.size w1 w2) (h : Kd.R (Kd.int .i64) 2 w2 w1.heap.size (fun k => k ≠ g) vp p) (hq : Kd.R (Kd.int .i64) 2 w2 w1.heap.size (fun k => k ≠ g ∧ some k ≠ vp.ownBlock) vb b) (x y z : Value) :
    Kd.R (Kd.int .i64) 2 (((w2.setCell ⟨w.heap.size, 0, none⟩ x).setCell ⟨w.heap.size, 1, none⟩ y).setCell ⟨w.heap.size, 2, none⟩ z) w.heap.size (fun k_ => some k_ ≠ vb.ownBlock) vp p ∧ Kd.R (Kd.int .i64) 2 (((w2.setCell ⟨w.heap.size, 0, none⟩ x).setCell ⟨w.heap.size, 1, none⟩ y).setCell ⟨w.heap.size, 2, none⟩ z) w.heap.size (fun k_ => some k_ ≠ vp.ownBlock) vb b ∧
    Below w.heap.size w (((w2.setCell ⟨w.heap.size, 0, none⟩ x).setCell ⟨w.heap.size, 1, none⟩ y).setCell ⟨w.heap.size, 2, none⟩ z) := by
  subst hw1
  have hsz : (w.alloc o).heap.size = w.heap.size + 1 := by simp
  have e := spec_l02Decode.ends (W1 := ((w2.setCell ⟨w.heap.size, 0, none⟩ x).setCell ⟨w.heap.size, 1, none⟩ y).setCell ⟨w.heap.size, 2, none⟩ z) (base' := w.heap.size) h hq (fun k hk => by
    rw [Below.heap_setCell _ _ _ k (by simp; omega), Below.heap_setCell _ _ _ k (by simp; omega), Below.heap_setCell _ _ _ k (by simp; omega)]) (by omega)
  exact ⟨e.1, e.2, below_set (below_set (below_set (below_step (below_alloc (Below.refl _ _) o) hB) (Nat.le_refl _)) (Nat.le_refl _)) (Nat.le_refl _)⟩
set_option maxHeartbeats 8000000 in
set_option maxRecDepth 100000 in
theorem spec_l02Decode.calls (a0 : Int) (a1 : ByteArray) (a2 : Bool) (r1 r2 : List Int) (r3 : Int) (w : World) (h : spec_l02Decode.f a0 a1 a2 = some (r1, r2, r3)) :
    Calls Tryd.prog 46 #[.int .i64 a0, .string a1, .bool a2] w fun e w' => ∃ v0_ v1_ : Value, e = .returned (.agg #[v0_, v1_, .int .i64 r3]) ∧ Kd.R (Kd.int .i64) 2 w' w.heap.size (fun k_ => some k_ ≠ v1_.ownBlock) v0_ r1 ∧ Kd.R (Kd.int .i64) 2 w' w.heap.size (fun k_ => some k_ ≠ v0_.ownBlock) v1_ r2 ∧ Below w.heap.size w w' := by
  unfold spec_l02Decode.f at h
  by_cases hs : a1.size ≤ 1099511627776
  · rw [if_pos hs] at h
    obtain ⟨F, HF⟩ : ∃ F : Int, F = a0 := ⟨_, rfl⟩
    rw [← HF] at h
    have HH0 := Aside0.mk (Option.some.inj h)
    replace HF := Aside0.mk HF
    clear h
    have hsz : a1.size ≤ 9223372036854775807 := by omega
    obtain ⟨w1, hw1⟩ : ∃ w1, w.alloc (.cells #[.slice none 0 0, .slice none 0 0, .int .i64 0] 58) = w1 := ⟨_, rfl⟩
    have HWB := Aside0.mk (show w1.heap[w.heap.size]? = some (.cells #[.slice none 0 0, .slice none 0 0, .int .i64 0] 58 (0, 0)) from hw1 ▸ heap_alloc_new w _)
    have hw1 := Aside0.mk hw1
    have hf : (a0 = 1 ∨ a0 = 3 ∨ a0 = 5) ∨ (((a0 == 1) = false ∧ (a0 == 3) = false ∧ (a0 == 5) = false) ∧ (a0 < 4 ∨ 4 ≤ a0)) := by
      by_cases f1 : a0 = 1
      · exact .inl (.inl f1)
      · by_cases f3 : a0 = 3
        · exact .inl (.inr (.inl f3))
        · by_cases f5 : a0 = 5
          · exact .inl (.inr (.inr f5))
          · exact .inr ⟨⟨by simpa using f1, by simpa using f3, by simpa using f5⟩, by omega⟩
    have hst : ∀ (p b : List Int) (u : Nat), u < a1.size → p.length ≤ u → b.length ≤ u → ∃ on p' b' u', YtphjfenhnhfakaaDoorDec.step (YtphjfenhnhfakaaDoorDec.pieceP F ((bytesOf a1).drop u)) a2 p b (u : Int) = (on, p', b', u') ∧
        (F = 1 → W_spec_l02Read_eight.f p b (u : Int) a1 a2 = some (on, p', b', u')) ∧
        (∀ x, x = (F == 5) → F ≠ 1 → 4 ≤ F → W_spec_l02Read_wide.f p b (u : Int) a1 x a2 = some (on, p', b', u')) ∧
        (∀ x, x = (F == 3) → F ≠ 1 → F < 4 → W_spec_l02Read_sixteen.f p b (u : Int) a1 x a2 = some (on, p', b', u')) := by
      intro p b u hu h1 h2
      obtain ⟨S, hS⟩ : ∃ S, YtphjfenhnhfakaaDoorDec.step (YtphjfenhnhfakaaDoorDec.pieceP F ((bytesOf a1).drop u)) a2 p b (u : Int) = S := ⟨_, rfl⟩
      obtain ⟨on, p', b', u'⟩ := S
      refine ⟨on, p', b', u', hS, fun e => ?_, fun x hx e f => ?_, fun x hx e f => ?_⟩ <;> rw [← hS]
      · unfold W_spec_l02Read_eight.f YtphjfenhnhfakaaDoorDec.pieceP
        rw [if_pos ⟨by omega, by omega, hs, by omega, by omega⟩, if_pos e, Int.toNat_natCast]
      · unfold W_spec_l02Read_wide.f YtphjfenhnhfakaaDoorDec.pieceP
        rw [if_pos ⟨by omega, by omega, hs, by omega, by omega⟩, if_neg e, if_pos f, Int.toNat_natCast, hx]
        rfl
      · unfold W_spec_l02Read_sixteen.f YtphjfenhnhfakaaDoorDec.pieceP
        rw [if_pos ⟨by omega, by omega, hs, by omega, by omega⟩, if_neg e, if_neg (by omega), Int.toNat_natCast, hx]
        rfl
    have HST := Aside0.mk hst
    clear hst
    rcases hf with (rfl | rfl | rfl) | ⟨⟨e1, e3, e5⟩, hf | hf⟩
    all_goals
      go_enter Tryd.func46, Tryd.ntmps46
      go_wp2
      go_loopw [9] (fun _ wr => ∃ (p b : List Int) (u : Nat), Aside0 (u ≤ a1.size ∧ p.length ≤ u ∧ b.length ≤ u ∧ IsS58 w1 wr w1.heap.size p b (u : Int) ∧ Below w1.heap.size w1 wr ∧ (p ++ (YtphjfenhnhfakaaDoorDec.dall F a2 ((bytesOf a1).drop u) (u : Int)).1, b ++ (YtphjfenhnhfakaaDoorDec.dall F a2 ((bytesOf a1).drop u) (u : Int)).2.1, (YtphjfenhnhfakaaDoorDec.dall F a2 ((bytesOf a1).drop u) (u : Int)).2.2) = (r1, r2, r3))) (fun _ wr => a1.size - (intOf ((wr.cell? ⟨w1.heap.size, 2, none⟩).getD undef)).toNat)
      case atStart =>
        exact ⟨[], [], 0, ⟨Nat.zero_le _, Nat.le_refl _, Nat.le_refl _, ⟨none, 0, none, 0, heap_alloc_new _ _, Nat.le_refl _, Kd.R_nil _ _ _ _ _, Kd.R_nil _ _ _ _ _⟩, below_alloc (Below.refl _ _) _, HH0.out⟩⟩
      case round =>
        obtain ⟨p, b, u, HH⟩ := hrel
        obtain ⟨A0, c0, A1, c1, HG, _, hR0, hR1⟩ := HH.out.2.2.2.1
        have k0 := cellS58_0 HG
        have k1 := cellS58_1 HG
        have k2 := cellS58_2 HG
        have HR0 := Aside0.mk hR0
        have HR1 := Aside0.mk hR1
        clear HG hR0 hR1
        by_cases hlt : u < a1.size
        · obtain ⟨on, p', b', u', hst, hw8, hw32, hw16⟩ := HST.out p b u hlt HH.out.2.1 HH.out.2.2.1
          have hne := spec_l02Read_eight.drop_ne a1 u hlt
          have hby := spec_l02Read_eight.drop_bytes a1 u
          have HW8 := Aside0.mk hw8
          have HW32 := Aside0.mk hw32
          have HW16 := Aside0.mk hw16
          clear hw8 hw32 hw16
          cases on
          · have he := (YtphjfenhnhfakaaDoorDec.dall_halt hne hst).symm.trans HH.out.2.2.2.2.2
            simp only [Prod.mk.injEq] at he
            obtain ⟨rfl, rfl, rfl⟩ := he
            clear hst hne hby k0 k1
            go_wp2_with (first
              | (go_at_call 77; refine (W_spec_l02Read_eight.calls w1.heap.size p b (u : Int) a1 a2 false p' b' u' w1 _ HH.out.2.2.2.1 HH.out.2.2.2.2.1 (HW8.out HF.out)).mono ?_; rintro e w2 ⟨rfl, hI2, hB2, _⟩; obtain ⟨A0, c0, A1, c1, HG, _, hR0, hR1⟩ := hI2; have k0 := cellS58_0 HG; have k1 := cellS58_1 HG; have k2 := cellS58_2 HG; have hbw := blk_below HWB.out hB2; have q0 : w2.cell? ⟨w.heap.size, 0, none⟩ = some (.slice none 0 0) := (blk_cell hbw 0).trans rfl; have q1 : w2.cell? ⟨w.heap.size, 1, none⟩ = some (.slice none 0 0) := (blk_cell hbw 1).trans rfl; have q2 : w2.cell? ⟨w.heap.size, 2, none⟩ = some (.int .i64 0) := (blk_cell hbw 2).trans rfl; have z0 := blk_frozen hbw 0; have z1 := blk_frozen hbw 1; have z2 := blk_frozen hbw 2; have HBW := Aside0.mk hbw; have FN := Aside0.mk (spec_l02Decode.fin hw1.out hB2 hR0 hR1); clear hbw HG hB2 hR0 hR1)
              | (go_at_call 78; refine (W_spec_l02Read_wide.calls w1.heap.size p b (u : Int) a1 _ a2 false p' b' u' w1 _ HH.out.2.2.2.1 HH.out.2.2.2.2.1 (HW32.out _ (by rw [HF.out]; first | rfl | exact e5.symm) (by rw [HF.out]; first | decide | (intro z; rw [z] at e1; cases e1)) (by rw [HF.out]; omega))).mono ?_; rintro e w2 ⟨rfl, hI2, hB2, _⟩; obtain ⟨A0, c0, A1, c1, HG, _, hR0, hR1⟩ := hI2; have k0 := cellS58_0 HG; have k1 := cellS58_1 HG; have k2 := cellS58_2 HG; have hbw := blk_below HWB.out hB2; have q0 : w2.cell? ⟨w.heap.size, 0, none⟩ = some (.slice none 0 0) := (blk_cell hbw 0).trans rfl; have q1 : w2.cell? ⟨w.heap.size, 1, none⟩ = some (.slice none 0 0) := (blk_cell hbw 1).trans rfl; have q2 : w2.cell? ⟨w.heap.size, 2, none⟩ = some (.int .i64 0) := (blk_cell hbw 2).trans rfl; have z0 := blk_frozen hbw 0; have z1 := blk_frozen hbw 1; have z2 := blk_frozen hbw 2; have HBW := Aside0.mk hbw; have FN := Aside0.mk (spec_l02Decode.fin hw1.out hB2 hR0 hR1); clear hbw HG hB2 hR0 hR1)
              | (go_at_call 79; refine (W_spec_l02Read_sixteen.calls w1.heap.size p b (u : Int) a1 _ a2 false p' b' u' w1 _ HH.out.2.2.2.1 HH.out.2.2.2.2.1 (HW16.out _ (by rw [HF.out]; first | rfl | exact e3.symm) (by rw [HF.out]; first | decide | (intro z; rw [z] at e1; cases e1)) (by rw [HF.out]; omega))).mono ?_; rintro e w2 ⟨rfl, hI2, hB2, _⟩; obtain ⟨A0, c0, A1, c1, HG, _, hR0, hR1⟩ := hI2; have k0 := cellS58_0 HG; have k1 := cellS58_1 HG; have k2 := cellS58_2 HG; have hbw := blk_below HWB.out hB2; have q0 : w2.cell? ⟨w.heap.size, 0, none⟩ = some (.slice none 0 0) := (blk_cell hbw 0).trans rfl; have q1 : w2.cell? ⟨w.heap.size, 1, none⟩ = some (.slice none 0 0) := (blk_cell hbw 1).trans rfl; have q2 : w2.cell? ⟨w.heap.size, 2, none⟩ = some (.int .i64 0) := (blk_cell hbw 2).trans rfl; have z0 := blk_frozen hbw 0; have z1 := blk_frozen hbw 1; have z2 := blk_frozen hbw 2; have HBW := Aside0.mk hbw; have FN := Aside0.mk (spec_l02Decode.fin hw1.out hB2 hR0 hR1); clear hbw HG hB2 hR0 hR1))
            exact bodyPost_ret (v := .agg #[.slice A0 p'.length c0, .slice A1 b'.length c1, .int .i64 u']) (results_single rfl (.cell _ _ _ _ _ rfl (blk_put (blk_put (blk_put HBW.out 0 _ rfl) 1 _ rfl) 2 _ rfl) Tryd.underlying58 rfl (by kernel_rfl) .nil)) rfl ⟨_, _, rfl, (FN.out _ _ _).1, (FN.out _ _ _).2.1, (FN.out _ _ _).2.2⟩
          · obtain ⟨he, hu', hp', hb'⟩ := YtphjfenhnhfakaaDoorDec.dall_step hne hby hst
            have hpb := YtphjfenhnhfakaaDoorDec.piece_bound F hne hby
            rw [List.length_drop, bytesOf_length] at hpb
            have HE := Aside0.mk (he.symm.trans HH.out.2.2.2.2.2)
            have HU := Aside0.mk hu'
            have HPB := Aside0.mk hpb
            have HL := Aside0.mk (And.intro hp' hb')
            clear he hu' hp' hb' hpb hst hne hby k0 k1
            go_wp2_with (first
              | (go_at_call 77; refine (W_spec_l02Read_eight.calls w1.heap.size p b (u : Int) a1 a2 true p' b' u' w1 _ HH.out.2.2.2.1 HH.out.2.2.2.2.1 (HW8.out HF.out)).mono ?_; rintro e w2 ⟨rfl, hI2, hB2, _⟩; have HI2 := Aside0.mk hI2; have HB2 := Aside0.mk hB2; clear hI2 hB2)
              | (go_at_call 78; refine (W_spec_l02Read_wide.calls w1.heap.size p b (u : Int) a1 _ a2 true p' b' u' w1 _ HH.out.2.2.2.1 HH.out.2.2.2.2.1 (HW32.out _ (by rw [HF.out]; first | rfl | exact e5.symm) (by rw [HF.out]; first | decide | (intro z; rw [z] at e1; cases e1)) (by rw [HF.out]; omega))).mono ?_; rintro e w2 ⟨rfl, hI2, hB2, _⟩; have HI2 := Aside0.mk hI2; have HB2 := Aside0.mk hB2; clear hI2 hB2)
              | (go_at_call 79; refine (W_spec_l02Read_sixteen.calls w1.heap.size p b (u : Int) a1 _ a2 true p' b' u' w1 _ HH.out.2.2.2.1 HH.out.2.2.2.2.1 (HW16.out _ (by rw [HF.out]; first | rfl | exact e3.symm) (by rw [HF.out]; first | decide | (intro z; rw [z] at e1; cases e1)) (by rw [HF.out]; omega))).mono ?_; rintro e w2 ⟨rfl, hI2, hB2, _⟩; have HI2 := Aside0.mk hI2; have HB2 := Aside0.mk hB2; clear hI2 hB2))
            go_roundw
            case rel =>
              refine ⟨p', b', u + (YtphjfenhnhfakaaDoorDec.pieceP F ((bytesOf a1).drop u)).2.1, ⟨?_⟩⟩
              have e : u' = ((u + (YtphjfenhnhfakaaDoorDec.pieceP F ((bytesOf a1).drop u)).2.1 : Nat) : Int) := by rw [HU.out]; omega
              have hpb := HPB.out
              have hll := HL.out
              have hh := HH.out
              have HI2 := HI2.out
              have HE := HE.out
              rw [e, List.drop_drop] at HE
              rw [e] at HI2
              exact ⟨by omega, by omega, by omega, HI2, HB2.out, HE⟩
            case measure =>
              have hpb := HPB.out
              have hu := HU.out
              obtain ⟨A0, c0, A1, c1, HG, _, _, _⟩ := HI2.out
              have k2' := cellS58_2 HG
              rw [k2, k2']
              simp only [Option.getD_some, intOf]
              omega
        · obtain rfl : u = a1.size := by have := HH.out.1; omega
          have he := HH.out.2.2.2.2.2
          rw [List.drop_eq_nil_of_le (by rw [bytesOf_length]; exact Nat.le_refl _), YtphjfenhnhfakaaDoorDec.dall_nil] at he
          simp only [List.append_nil, Prod.mk.injEq] at he
          obtain ⟨rfl, rfl, rfl⟩ := he
          have hbw := blk_below HWB.out HH.out.2.2.2.2.1
          have q0 : wr.cell? ⟨w.heap.size, 0, none⟩ = some (.slice none 0 0) := (blk_cell hbw 0).trans rfl
          have q1 : wr.cell? ⟨w.heap.size, 1, none⟩ = some (.slice none 0 0) := (blk_cell hbw 1).trans rfl
          have q2 : wr.cell? ⟨w.heap.size, 2, none⟩ = some (.int .i64 0) := (blk_cell hbw 2).trans rfl
          have z0 := blk_frozen hbw 0
          have z1 := blk_frozen hbw 1
          have z2 := blk_frozen hbw 2
          have HBW := Aside0.mk hbw
          have FN := Aside0.mk (spec_l02Decode.fin hw1.out HH.out.2.2.2.2.1 HR0.out HR1.out)
          clear hbw
          go_wp2
          exact bodyPost_ret (v := .agg #[.slice A0 p.length c0, .slice A1 b.length c1, .int .i64 (a1.size : Nat)]) (results_single rfl (.cell _ _ _ _ _ rfl (blk_put (blk_put (blk_put HBW.out 0 _ rfl) 1 _ rfl) 2 _ rfl) Tryd.underlying58 rfl (by kernel_rfl) .nil)) rfl ⟨_, _, rfl, (FN.out _ _ _).1, (FN.out _ _ _).2.1, (FN.out _ _ _).2.2⟩
  · rw [if_neg hs] at h
    cases h

/-! ### spec_Detect: function 14 (by hand) -/
def spec_Detect.b (s p : ByteArray) : Bool := decide (p.size ≤ s.size) && ((s.extract 0 p.size).toList == p.toList)
def spec_Detect.zs (s : ByteArray) : Nat → Int × Int
  | 0 => (0, 0)
  | i + 1 => if bt s (i : Int) = 0 then (if i % 2 = 0 then ((spec_Detect.zs s i).1 + 1, (spec_Detect.zs s i).2) else ((spec_Detect.zs s i).1, (spec_Detect.zs s i).2 + 1)) else spec_Detect.zs s i
def spec_Detect.end_ (s : ByteArray) : Int :=
  if (spec_Detect.zs s s.size).1 + (spec_Detect.zs s s.size).2 = 0 ∧ (YtphjfenhnhfakaaDoorDec.dall 1 true (bytesOf s) 0).2.1.length = 0 then 1
  else if s.size % 2 = 0 ∧ (spec_Detect.zs s s.size).1 > (spec_Detect.zs s s.size).2 then 2 else if s.size % 2 = 0 ∧ (spec_Detect.zs s s.size).1 < (spec_Detect.zs s s.size).2 then 3 else 0
def spec_Detect.g (s : ByteArray) : Int :=
  if s.size > 65536 then 0 else if spec_Detect.b s ⟨#[239, 187, 191]⟩ = true then 1 else if spec_Detect.b s ⟨#[255, 254, 0, 0]⟩ = true then 5 else if spec_Detect.b s ⟨#[0, 0, 254, 255]⟩ = true then 4
  else if spec_Detect.b s ⟨#[254, 255]⟩ = true then 2 else if spec_Detect.b s ⟨#[255, 254]⟩ = true then 3 else spec_Detect.end_ s
def spec_Detect.f (a0 : ByteArray) : Option Int := if a0.size ≤ 1099511627776 then some (spec_Detect.g a0) else none
theorem spec_Detect.starts (s p : ByteArray) : spec_l02Starts.f s p = some (spec_Detect.b s p) := by
  unfold spec_l02Starts.f spec_Detect.b
  by_cases c : p.size ≤ s.size
  · rw [if_pos (by omega), if_pos (by omega), if_pos (by omega), decide_eq_true c, Bool.true_and]; rfl
  · rw [if_neg (by omega), decide_eq_false c, Bool.false_and]
theorem spec_Detect.zs_bound (s : ByteArray) (i : Nat) : 0 ≤ (spec_Detect.zs s i).1 ∧ (spec_Detect.zs s i).1 ≤ i ∧ 0 ≤ (spec_Detect.zs s i).2 ∧ (spec_Detect.zs s i).2 ≤ i := by
  induction i with
  | zero => simp [spec_Detect.zs]
  | succ i ih =>
    simp only [spec_Detect.zs]
    repeat' split
    all_goals (refine ⟨?_, ?_, ?_, ?_⟩ <;> (try simp only []) <;> omega)
set_option maxHeartbeats 4000000 in
set_option maxRecDepth 100000 in
theorem spec_Detect.calls (a0 : ByteArray) (r : Int) (w : World) (h : spec_Detect.f a0 = some r) :
    Calls Tryd.prog 14 #[.string a0] w fun e w' => e = .returned (.int .i64 r) ∧ Below w.heap.size w w' := by
  unfold spec_Detect.f at h
  by_cases hs : a0.size ≤ 1099511627776
  · rw [if_pos hs] at h
    have h := Option.some.inj h
    have HS := Aside0.mk (show ∀ (p : ByteArray) (W : World), Calls Tryd.prog 45 #[.string a0, .string p] W fun e w' => e = .returned (.bool (spec_Detect.b a0 p)) ∧ Drawn0 W w' from fun p W => spec_l02Starts.calls a0 p _ W (spec_Detect.starts a0 p))
    unfold spec_Detect.g at h
    by_cases c0 : a0.size > 65536
    · rw [if_pos c0] at h
      subst h
      go_enter Tryd.func14, Tryd.ntmps14
      go_wp2
      go_ret
      exact ⟨rfl, Below.refl _ _⟩
    · rw [if_neg c0] at h
      have hle : a0.size ≤ 65536 := by omega
      clear c0 hs
      by_cases c1 : spec_Detect.b a0 ⟨#[239, 187, 191]⟩ = true
      · rw [if_pos c1] at h
        subst h
        go_enter Tryd.func14, Tryd.ntmps14
        go_wp2_with (first | (go_at_call 45; refine (HS.out _ _).mono ?_; rintro e w1 ⟨rfl, ⟨nd, rfl⟩⟩))
        go_ret
        exact ⟨rfl, by repeat (first | exact Below.refl _ _ | apply pw_below_drewN | apply below_drew1)⟩
      · rw [if_neg c1] at h
        replace c1 := Bool.eq_false_iff.mpr c1
        by_cases c2 : spec_Detect.b a0 ⟨#[255, 254, 0, 0]⟩ = true
        · rw [if_pos c2] at h
          subst h
          go_enter Tryd.func14, Tryd.ntmps14
          go_wp2_with (first | (go_at_call 45; refine (HS.out _ _).mono ?_; rintro e w1 ⟨rfl, ⟨nd, rfl⟩⟩))
          go_ret
          exact ⟨rfl, by repeat (first | exact Below.refl _ _ | apply pw_below_drewN | apply below_drew1)⟩
        · rw [if_neg c2] at h
          replace c2 := Bool.eq_false_iff.mpr c2
          by_cases c3 : spec_Detect.b a0 ⟨#[0, 0, 254, 255]⟩ = true
          · rw [if_pos c3] at h
            subst h
            go_enter Tryd.func14, Tryd.ntmps14
            go_wp2_with (first | (go_at_call 45; refine (HS.out _ _).mono ?_; rintro e w1 ⟨rfl, ⟨nd, rfl⟩⟩))
            go_ret
            exact ⟨rfl, by repeat (first | exact Below.refl _ _ | apply pw_below_drewN | apply below_drew1)⟩
          · rw [if_neg c3] at h
            replace c3 := Bool.eq_false_iff.mpr c3
            by_cases c4 : spec_Detect.b a0 ⟨#[254, 255]⟩ = true
            · rw [if_pos c4] at h
              subst h
              go_enter Tryd.func14, Tryd.ntmps14
              go_wp2_with (first | (go_at_call 45; refine (HS.out _ _).mono ?_; rintro e w1 ⟨rfl, ⟨nd, rfl⟩⟩))
              go_ret
              exact ⟨rfl, by repeat (first | exact Below.refl _ _ | apply pw_below_drewN | apply below_drew1)⟩
            · rw [if_neg c4] at h
              replace c4 := Bool.eq_false_iff.mpr c4
              by_cases c5 : spec_Detect.b a0 ⟨#[255, 254]⟩ = true
              · rw [if_pos c5] at h
                subst h
                go_enter Tryd.func14, Tryd.ntmps14
                go_wp2_with (first | (go_at_call 45; refine (HS.out _ _).mono ?_; rintro e w1 ⟨rfl, ⟨nd, rfl⟩⟩))
                go_ret
                exact ⟨rfl, by repeat (first | exact Below.refl _ _ | apply pw_below_drewN | apply below_drew1)⟩
              · rw [if_neg c5] at h
                replace c5 := Bool.eq_false_iff.mpr c5
                have hsz : a0.size ≤ 9223372036854775807 := by omega
                have HR := Aside0.mk h
                have HB := Aside0.mk (Below.refl w.heap.size w)
                clear h
                go_enter Tryd.func14, Tryd.ntmps14
                go_wp2_with (first | (go_at_call 45; refine (HS.out _ _).mono ?_; rintro e w1 ⟨rfl, hd1⟩; have HB2 := Aside0.mk (below_step HB.out hd1.below); clear hd1 HB; have HB := HB2; clear HB2))
                obtain ⟨wq, hwq⟩ : ∃ wq : World, wq = w1 := ⟨_, rfl⟩
                go_loopw [4] (fun i wr => ∃ k : Nat, k ≤ a0.size ∧ i = .int .i64 k ∧ Aside0 (wr.heap[w1.heap.size]? = some (.cells #[.int .i64 (spec_Detect.zs a0 k).1, .int .i64 (spec_Detect.zs a0 k).2] 56 (0, 0)) ∧ Below w1.heap.size w1 wr)) (fun i _ => a0.size - (intOf i).toNat)
                case atStart =>
                  exact ⟨0, Nat.zero_le _, rfl, ⟨heap_alloc_new _ _, below_alloc (Below.refl _ _) _⟩⟩
                case round =>
                  obtain ⟨k, hk, rfl, HK⟩ := hrel
                  have z0 := (blk_cell HK.out.1 0).trans rfl
                  have z1 := (blk_cell HK.out.1 1).trans rfl
                  have f0 := blk_frozen HK.out.1 0
                  have f1 := blk_frozen HK.out.1 1
                  have hzb := spec_Detect.zs_bound a0 k
                  obtain ⟨Z, hZ⟩ : ∃ Z, spec_Detect.zs a0 k = Z := ⟨_, rfl⟩
                  rw [hZ] at z0 z1 hzb
                  obtain ⟨x, y⟩ := Z
                  have HZ := Aside0.mk hZ
                  have hzb1 : 0 ≤ x ∧ x ≤ k := ⟨hzb.1, hzb.2.1⟩
                  have hzb2 : 0 ≤ y ∧ y ≤ k := ⟨hzb.2.2.1, hzb.2.2.2⟩
                  obtain ⟨x0, x1⟩ := hzb1
                  obtain ⟨y0, y1⟩ := hzb2
                  clear hzb hZ
                  have z0 : wr.cell? ⟨w1.heap.size, 0, none⟩ = some (.int .i64 x) := z0
                  have z1 : wr.cell? ⟨w1.heap.size, 1, none⟩ = some (.int .i64 y) := z1
                  by_cases hlt : k < a0.size
                  · have hx := bt_at a0 (k : Int)
                    simp only [Int.toNat_natCast] at hx
                    have p27 : (0 ≤ (k : Int)) = True := eq_true (by omega)
                    have q27 : ((k : Int) < (a0.size : Int)) = True := eq_true (by omega)
                    by_cases hb : bt a0 (k : Int) = 0
                    · have hb0 : (bt a0 (k : Int) == 0) = true := beq_iff_eq.2 hb
                      have HBT := Aside0.mk hb
                      clear hb
                      by_cases hp : k % 2 = 0
                      · have hp' : (k : Int) % 2 = 0 := by omega
                        go_wp2
                        go_roundw
                        case rel =>
                          refine ⟨k + 1, by omega, by go_num, ⟨?_, below_set HK.out.2 (Nat.le_refl _)⟩⟩
                          have e : spec_Detect.zs a0 (k + 1) = (x + 1, y) := by simp only [spec_Detect.zs]; rw [if_pos HBT.out, if_pos hp, HZ.out]
                          have := HK.out.1
                          rw [HZ.out] at this
                          rw [e]
                          exact blk_put this 0 _ rfl
                        case measure => simp [intOf]; omega
                      · have hp' : (k : Int) % 2 = 1 := by omega
                        go_wp2
                        go_roundw
                        case rel =>
                          refine ⟨k + 1, by omega, by go_num, ⟨?_, below_set HK.out.2 (Nat.le_refl _)⟩⟩
                          have e : spec_Detect.zs a0 (k + 1) = (x, y + 1) := by simp only [spec_Detect.zs]; rw [if_pos HBT.out, if_neg hp, HZ.out]
                          have := HK.out.1
                          rw [HZ.out] at this
                          rw [e]
                          exact blk_put this 1 _ rfl
                        case measure => simp [intOf]; omega
                    · have hb0 : (bt a0 (k : Int) == 0) = false := beq_eq_false_iff_ne.2 hb
                      have HBT := Aside0.mk hb
                      clear hb
                      go_wp2
                      go_roundw
                      case rel =>
                        refine ⟨k + 1, by omega, by go_num, ⟨?_, HK.out.2⟩⟩
                        have e : spec_Detect.zs a0 (k + 1) = (x, y) := by simp only [spec_Detect.zs]; rw [if_neg HBT.out, HZ.out]
                        rw [e]
                        have := HK.out.1
                        rw [HZ.out] at this
                        exact this
                      case measure => simp [intOf]; omega
                  · obtain rfl : k = a0.size := by omega
                    have HE := Aside0.mk (show spec_Detect.end_ a0 = (if x + y = 0 ∧ (YtphjfenhnhfakaaDoorDec.dall 1 true (bytesOf a0) 0).2.1.length = 0 then 1 else if a0.size % 2 = 0 ∧ x > y then 2 else if a0.size % 2 = 0 ∧ x < y then 3 else 0) by unfold spec_Detect.end_; rw [HZ.out])
                    have HBB := Aside0.mk (below_step (show Below w.heap.size w w1 from HB.out) HK.out.2)
                    obtain ⟨D, hD⟩ : ∃ D, YtphjfenhnhfakaaDoorDec.dall 1 true (bytesOf a0) 0 = D := ⟨_, rfl⟩
                    obtain ⟨P, B, U⟩ := D
                    have hd : spec_l02Decode.f 1 a0 true = some (P, B, U) := by unfold spec_l02Decode.f; rw [if_pos (by omega), hD]
                    have HD := Aside0.mk hd
                    have HDD := Aside0.mk hD
                    clear hd hD
                    have fin : ∀ v : Int, v = (if x + y = 0 ∧ B.length = 0 then 1 else if a0.size % 2 = 0 ∧ x > y then 2 else if a0.size % 2 = 0 ∧ x < y then 3 else 0) → Aside0 (v = r) := by
                      intro v hv
                      refine ⟨?_⟩
                      rw [← HR.out, HE.out, HDD.out, hv]
                    have FIN := Aside0.mk fin
                    clear fin
                    by_cases hA : x + y = 0
                    · have hx0 : x = 0 := by omega
                      have hy0 : y = 0 := by omega
                      subst hx0 hy0
                      have HA := Aside0.mk hA
                      clear hA
                      by_cases hB : B.length = 0
                      · have hb : ((B.length : Int) == 0) = true := by rw [hB]; rfl
                        obtain rfl := (FIN.out 1 (by rw [if_pos ⟨HA.out, hB⟩])).out
                        clear hB
                        go_wp2_with (first | (go_at_call 46; refine (spec_l02Decode.calls 1 a0 true P B U _ HD.out).mono ?_; rintro e w2 ⟨v0, v1, rfl, ho0, ho1, hb2⟩; have hfb := fun n W => spec_l02Decode.fieldB ho0 ho1 n W; obtain ⟨A1, c1, rfl⟩ := Kd.R_slice ho1; have HB3 := Aside0.mk (below_step HBB.out hb2); clear ho0 ho1 hb2))
                        go_ret
                        exact ⟨rfl, HB3.out⟩
                      · have hb : ((B.length : Int) == 0) = false := by rw [beq_eq_false_iff_ne]; omega
                        obtain rfl := (FIN.out 0 (by rw [if_neg (fun z => hB z.2), if_neg (by omega), if_neg (by omega)])).out
                        clear hB
                        have z0' : ∀ w2 : World, Below wr.heap.size wr w2 → w2.cell? ⟨w1.heap.size, 0, none⟩ = some (.int .i64 0) ∧ w2.cell? ⟨w1.heap.size, 1, none⟩ = some (.int .i64 0) := fun w2 hb2 => ⟨pw_cell_below hb2 z0, pw_cell_below hb2 z1⟩
                        have Z0 := Aside0.mk z0'
                        clear z0'
                        by_cases hE : a0.size % 2 = 0
                        · have he : (((a0.size : Int) % 2) == 0) = true := by rw [beq_iff_eq]; omega
                          clear hE
                          go_wp2_with (first | (go_at_call 46; refine (spec_l02Decode.calls 1 a0 true P B U _ HD.out).mono ?_; rintro e w2 ⟨v0, v1, rfl, ho0, ho1, hb2⟩; have hfb := fun n W => spec_l02Decode.fieldB ho0 ho1 n W; obtain ⟨A1, c1, rfl⟩ := Kd.R_slice ho1; obtain ⟨y0', y1'⟩ := Z0.out _ hb2; have HB3 := Aside0.mk (below_step HBB.out hb2); clear ho0 ho1 hb2))
                          go_ret
                          exact ⟨rfl, HB3.out⟩
                        · have he : (((a0.size : Int) % 2) == 0) = false := by rw [beq_eq_false_iff_ne]; omega
                          clear hE
                          go_wp2_with (first | (go_at_call 46; refine (spec_l02Decode.calls 1 a0 true P B U _ HD.out).mono ?_; rintro e w2 ⟨v0, v1, rfl, ho0, ho1, hb2⟩; have hfb := fun n W => spec_l02Decode.fieldB ho0 ho1 n W; obtain ⟨A1, c1, rfl⟩ := Kd.R_slice ho1; obtain ⟨y0', y1'⟩ := Z0.out _ hb2; have HB3 := Aside0.mk (below_step HBB.out hb2); clear ho0 ho1 hb2))
                          go_ret
                          exact ⟨rfl, HB3.out⟩
                    · have hA' : ((x + y) == 0) = false := by rw [beq_eq_false_iff_ne]; exact hA
                      by_cases hE : a0.size % 2 = 0
                      · have he : (((a0.size : Int) % 2) == 0) = true := by rw [beq_iff_eq]; omega
                        rcases Int.lt_trichotomy x y with hl | hl | hl
                        · obtain rfl := (FIN.out 3 (by rw [if_neg (fun z => hA z.1), if_neg (fun z => by omega), if_pos ⟨hE, hl⟩])).out
                          have h1 : decide (y < x) = false := decide_eq_false (by omega)
                          have h2 : decide (x < y) = true := decide_eq_true hl
                          clear hA hE hl
                          go_wp2
                          go_ret
                          exact ⟨rfl, HBB.out⟩
                        · obtain rfl := (FIN.out 0 (by rw [if_neg (fun z => hA z.1), if_neg (fun z => by omega), if_neg (fun z => by omega)])).out
                          subst hl
                          have h1 : decide (x < x) = false := decide_eq_false (by omega)
                          clear hA hE
                          go_wp2
                          go_ret
                          exact ⟨rfl, HBB.out⟩
                        · obtain rfl := (FIN.out 2 (by rw [if_neg (fun z => hA z.1), if_pos ⟨hE, hl⟩])).out
                          have h1 : decide (y < x) = true := decide_eq_true hl
                          clear hA hE hl
                          go_wp2
                          go_ret
                          exact ⟨rfl, HBB.out⟩
                      · have he : (((a0.size : Int) % 2) == 0) = false := by rw [beq_eq_false_iff_ne]; omega
                        obtain rfl := (FIN.out 0 (by rw [if_neg (fun z => hA z.1), if_neg (fun z => hE z.1), if_neg (fun z => hE z.1)])).out
                        clear hA hE
                        go_wp2
                        go_ret
                        exact ⟨rfl, HBB.out⟩
  · rw [if_neg hs] at h
    cases h

/-! ### laws_FnExactDetect: function 4 -/
def laws_FnExactDetect.f (k : Nat) (a0 : ByteArray) : Option (Bool) := if (a0.size : Int) > 1048576 then (some true) else ((spec_Detect.f a0).bind fun t171 => ((impl_Detect.f k a0).bind fun t172 => (if t172 = t171 then (some true) else (some false))))
theorem laws_FnExactDetect.mono : ∀ a0 k, LeO (laws_FnExactDetect.f k a0) (laws_FnExactDetect.f (k + 1) a0) := by
  intro a0 k
  unfold laws_FnExactDetect.f
  repeat' first
      | (with_reducible exact impl_Detect.mono _ _)
      | (with_reducible exact LeO.refl _)
      | (with_reducible exact LeO.none _)
      | (with_reducible refine LeO.ite ?_ ?_)
      | (with_reducible refine LeO.bind ?_ (fun _ => ?_))
      | exact impl_Detect.mono _ _
      | exact LeO.none _
      | refine LeO.ite ?_ ?_
      | refine LeO.bind ?_ (fun _ => ?_)
set_option maxHeartbeats 8000000 in
set_option maxRecDepth 100000 in
theorem laws_FnExactDetect.calls (k : Nat) (a0 : ByteArray) (r : Bool) (w : World) (h : laws_FnExactDetect.f k a0 = some r) (hG : GT w) :
    Calls Tryd.prog 4 #[.string a0] w fun e w' => e = .returned (.bool r) ∧ Below w.heap.size w w' := by
  have HG := Aside0.mk hG
  clear hG
  have HB := Aside0.mk (Below.refl w.heap.size w)
  have H : (if (a0.size : Int) > 1048576 then (some true) else ((spec_Detect.f a0).bind fun t171 => ((impl_Detect.f k a0).bind fun t172 => (if t172 = t171 then (some true) else (some false))))) = some r := h
  clear h
  by_cases c2 : (a0.size : Int) > 1048576
  · rw [if_pos c2] at H
    have c2b0 : decide (1048576 < (a0.size : Int)) = true := decide_eq_true c2
    have c2b1 : decide (1048576 < a0.size) = true := decide_eq_true (by omega)
    clear c2
    obtain rfl := Option.some.inj H
    go_enter Tryd.func4, Tryd.ntmps4
    go_wp2
    go_ret
    exact ⟨by first | rfl | (simp [errW_none, errW_some] <;> rfl) | (simp [*, errW_none, errW_some] <;> rfl), by repeat (first | (with_reducible first | exact HB.out | apply below_alloc | apply pw_below_drewN | apply below_drew1) | exact HB.out)⟩
  · rw [if_neg c2] at H
    have c2b0 : decide (1048576 < (a0.size : Int)) = false := decide_eq_false c2
    have c2b1 : decide (1048576 < a0.size) = false := decide_eq_false (by omega)
    clear c2
    replace H := Option.bind_eq_some_iff.mp H
    obtain ⟨t171, A30, H⟩ := H
    replace H : ((impl_Detect.f k a0).bind fun t172 => (if t172 = t171 then (some true) else (some false))) = some r := H
    have A3 := Aside0.mk A30
    clear A30
    replace H := Option.bind_eq_some_iff.mp H
    obtain ⟨t172, A40, H⟩ := H
    replace H : (if t172 = t171 then (some true) else (some false)) = some r := H
    have A4 := Aside0.mk A40
    clear A40
    by_cases c5 : t172 = t171
    · rw [if_pos c5] at H
      have c5b0 : (t172 == t171) = true := beq_iff_eq.mpr c5
      have c5b1 : (t172 != t171) = false := bne_eq_false_iff_eq.mpr c5
      clear c5
      obtain rfl := Option.some.inj H
      go_enter Tryd.func4, Tryd.ntmps4
      go_wp2_with (first | ((with_reducible refine gate_callee (f := 14) rfl ?_); refine goesL_ (some 9) rfl rfl Tryd.func14 (by kernel_rfl) rfl #[.string a0] rfl (by (try simp only [List.map_toArray, List.map_cons, List.map_nil]); first | done | rfl | (simp only [List.length_drop, List.length_take]; rfl)) ?_; (with_reducible refine (spec_Detect.calls a0 t171 _ A3.out).mono ?_); rintro e w6 ⟨rfl, hb⟩; refine ⟨_, rfl, ?_⟩; have n0_ := Aside0.mk (below_step (by repeat (first | (with_reducible first | exact HB.out | apply below_alloc | apply pw_below_drewN | apply below_drew1) | exact HB.out)) hb); clear HB; have HB := n0_; clear n0_; (try clear hb); (try clear hb2); (try clear hk); (try clear hi)) | ((with_reducible refine gate_callee (f := 12) rfl ?_); refine goesL_ (some 11) rfl rfl Tryd.func12 (by kernel_rfl) rfl #[.string a0] rfl (by (try simp only [List.map_toArray, List.map_cons, List.map_nil]); first | done | rfl | (simp only [List.length_drop, List.length_take]; rfl)) ?_; (with_reducible refine (impl_Detect.calls k a0 t172 _ A4.out (by first | exact HG.out | exact GT.below HG.out (by first | exact HB.out | (repeat (first | (with_reducible first | exact HB.out | apply below_alloc | apply pw_below_drewN | apply below_drew1) | exact HB.out))) | exact GT.below HG.out (HB.out))).mono ?_); rintro e w7 ⟨rfl, hb⟩; refine ⟨_, rfl, ?_⟩; have n0_ := Aside0.mk (below_step (by repeat (first | (with_reducible first | exact HB.out | apply below_alloc | apply pw_below_drewN | apply below_drew1) | exact HB.out)) hb); clear HB; have HB := n0_; clear n0_; (try clear hb); (try clear hb2); (try clear hk); (try clear hi)))
      go_ret
      exact ⟨by first | rfl | (simp [errW_none, errW_some] <;> rfl) | (simp [*, errW_none, errW_some] <;> rfl), by repeat (first | (with_reducible first | exact HB.out | apply below_alloc | apply pw_below_drewN | apply below_drew1) | exact HB.out)⟩
    · rw [if_neg c5] at H
      have c5b0 : (t172 == t171) = false := beq_eq_false_iff_ne.mpr c5
      have c5b1 : (t172 != t171) = true := bne_iff_ne.mpr c5
      obtain rfl := Option.some.inj H
      go_enter Tryd.func4, Tryd.ntmps4
      go_wp2_with (first | ((with_reducible refine gate_callee (f := 14) rfl ?_); refine goesL_ (some 9) rfl rfl Tryd.func14 (by kernel_rfl) rfl #[.string a0] rfl (by (try simp only [List.map_toArray, List.map_cons, List.map_nil]); first | done | rfl | (simp only [List.length_drop, List.length_take]; rfl)) ?_; (with_reducible refine (spec_Detect.calls a0 t171 _ A3.out).mono ?_); rintro e w8 ⟨rfl, hb⟩; refine ⟨_, rfl, ?_⟩; have n0_ := Aside0.mk (below_step (by repeat (first | (with_reducible first | exact HB.out | apply below_alloc | apply pw_below_drewN | apply below_drew1) | exact HB.out)) hb); clear HB; have HB := n0_; clear n0_; (try clear hb); (try clear hb2); (try clear hk); (try clear hi)) | ((with_reducible refine gate_callee (f := 12) rfl ?_); refine goesL_ (some 11) rfl rfl Tryd.func12 (by kernel_rfl) rfl #[.string a0] rfl (by (try simp only [List.map_toArray, List.map_cons, List.map_nil]); first | done | rfl | (simp only [List.length_drop, List.length_take]; rfl)) ?_; (with_reducible refine (impl_Detect.calls k a0 t172 _ A4.out (by first | exact HG.out | exact GT.below HG.out (by first | exact HB.out | (repeat (first | (with_reducible first | exact HB.out | apply below_alloc | apply pw_below_drewN | apply below_drew1) | exact HB.out))) | exact GT.below HG.out (HB.out))).mono ?_); rintro e w9 ⟨rfl, hb⟩; refine ⟨_, rfl, ?_⟩; have n0_ := Aside0.mk (below_step (by repeat (first | (with_reducible first | exact HB.out | apply below_alloc | apply pw_below_drewN | apply below_drew1) | exact HB.out)) hb); clear HB; have HB := n0_; clear n0_; (try clear hb); (try clear hb2); (try clear hk); (try clear hi)))
      go_ret
      exact ⟨by first | rfl | (simp [errW_none, errW_some] <;> rfl) | (simp [*, errW_none, errW_some] <;> rfl), by repeat (first | (with_reducible first | exact HB.out | apply below_alloc | apply pw_below_drewN | apply below_drew1) | exact HB.out)⟩

/-- THE ONE PURE STATEMENT of laws_FnExactDetect: yours. -/
def laws_FnExactDetect.Pure : Prop := ∀ (a0 : ByteArray), a0.size ≤ 140737488351232 → ∃ k, laws_FnExactDetect.f k a0 = some true
theorem laws_FnExactDetect.walk (P : laws_FnExactDetect.Pure) (a0 : ByteArray) (w : World) (hG : GT w) (w0 : a0.size ≤ 140737488351232) :
    Calls Tryd.prog 4 #[.string a0] w fun e w' => e = .returned (.bool true) ∧ Below w.heap.size w w' := by
  obtain ⟨k, h⟩ := P a0 w0
  refine (laws_FnExactDetect.calls k a0 true w h hG).mono ?_
  rintro e w' ⟨rfl, hd⟩
  exact ⟨rfl, hd⟩

end Go.Proofs.YtphjfenhnhfakaaDoor.QFnExactDetect
