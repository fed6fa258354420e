/- The law FnExactDecoderFault in plain Lean: the reference and the program find the same fault in a decoder, at every decoder. -/
import Derived.Test.YtphjfenhnhfakaaDoorQFnExactDecoderFaultx12
namespace Go.Proofs.YtphjfenhnhfakaaDoor.Pure
open Go.RowKit Go.Proofs.YtphjfenhnhfakaaDoor.QFnExactDecoderFault Go.Proofs.YtphjfenhnhfakaaDoorW.PrintWords Go.Proofs.YtphjfenhnhfakaaDoorW.PrintLast

theorem DFault.form (p : Int) : spec_l02IsForm.f p = some (decide (1 ≤ p ∧ p ≤ 5)) := by
  unfold spec_l02IsForm.f
  by_cases a : p ≥ 1
  · rw [if_pos a]
    have : decide (p ≤ 5) = decide (1 ≤ p ∧ p ≤ 5) := decide_eq_decide.2 ⟨fun z => ⟨a, z⟩, fun z => z.2⟩
    rw [this]
  · rw [if_neg a, decide_eq_false (fun z => a z.1)]
theorem DFault.spec (p : Int) (s : ByteArray) (n : Int) : spec_DecoderFault.f p s n = some (impl_DecoderFault.g p s n) := by
  unfold spec_DecoderFault.f impl_DecoderFault.g
  rw [DFault.form]
  simp only [Option.bind_some]
  by_cases f : 1 ≤ p ∧ p ≤ 5
  · rw [if_pos (decide_eq_true f)]
    by_cases n0 : n < 0
    · rw [if_pos n0, if_neg (by omega)]
    · rw [if_neg n0]
      by_cases n1 : n > 1000000000000
      · rw [if_pos n1, if_neg (by omega)]
      · rw [if_neg n1]
        by_cases c : (s.size : Int) > 3
        · rw [if_pos c, if_neg (by omega)]
        · rw [if_neg c, if_pos (show (1 ≤ p ∧ p ≤ 5) ∧ 0 ≤ n ∧ n ≤ 1000000000000 ∧ s.size ≤ 3 from ⟨f, by omega, by omega, by omega⟩)]
          unfold spec_l02Decode.f
          rw [if_pos (by omega)]
          simp only [Option.bind_some]
          have hl := bytesOf_length s
          have hb := YtphjfenhnhfakaaDoorPts.bytes_range s
          by_cases z : s.size = 0
          · have e : bytesOf s = [] := List.eq_nil_of_length_eq_zero (by rw [hl]; exact z)
            rw [e, if_pos z]; rfl
          · have hne : bytesOf s ≠ [] := fun y => z (by rw [← hl, y]; rfl)
            rw [if_neg z]
            by_cases w : (YtphjfenhnhfakaaDoorDec.pieceP p (bytesOf s)).2.2.2 = true
            · rw [YtphjfenhnhfakaaDoorDec.dall_stop 0 hne (by rw [w]; rfl), if_pos w]; rfl
            · have hp := YtphjfenhnhfakaaDoorDec.piece_bound p hne hb
              have hg := YtphjfenhnhfakaaDoorDec.dall_ge p false _ ((bytesOf s).drop (YtphjfenhnhfakaaDoorDec.pieceP p (bytesOf s)).2.1) (0 + (YtphjfenhnhfakaaDoorDec.pieceP p (bytesOf s)).2.1) (Nat.le_refl _) (fun b h => hb b (List.mem_of_mem_drop h))
              rw [YtphjfenhnhfakaaDoorDec.dall_cons 0 hne hb (by simpa using w), if_neg w]
              rw [if_pos (show _ > (0 : Int) by simp only []; omega)]
  · rw [if_neg (by simpa using f), if_neg (fun z => f z.1)]
theorem FnExactDecoderFault (a0 : Int) (a1 : ByteArray) (a2 : Int) : laws_FnExactDecoderFault.f a0 a1 a2 = some true := by
  unfold laws_FnExactDecoderFault.f laws_szDecoder.f laws_toDecoder.f W_impl_DecoderFault.f
  have tail : ((some (a0, a1, a2) : Option (Int × ByteArray × Int)).bind fun bt202 => ((spec_DecoderFault.f bt202.1 bt202.2.1 bt202.2.2).bind fun t205 => ((some (a0, a1, a2) : Option (Int × ByteArray × Int)).bind fun bt206 => ((some (impl_DecoderFault.g bt206.1 bt206.2.1 bt206.2.2)).bind fun t209 => (if t209 = t205 then (some true) else (some false)))))) = some true := by
    simp only [Option.bind_some, DFault.spec]
    rw [if_pos trivial]
  by_cases c : (wrap64 (1048576 - (a1.size : Int))) < 0
  · rw [if_pos c]
    rfl
  · rw [if_neg c]
    simp only [Option.bind_some] at tail ⊢
    rw [if_neg c]
    exact tail

end Go.Proofs.YtphjfenhnhfakaaDoor.Pure
