/- The law FnExactDecode in plain Lean: the reference and the program read the same points and the same broken places out of the same bytes, in each form, at every input; the answer's row is its own. -/
import Derived.Test.YtnonijganceneaaDoorQFnExactDecodex15
namespace Go.Proofs.YtnonijganceneaaDoor.Pure
open Go.RowKit Go.Proofs.YtnonijganceneaaDoor.QFnExactDecode Go.Proofs.YtnonijganceneaaDoorW.PrintWords Go.Proofs.YtnonijganceneaaDoorW.PrintLast

theorem Decode.len (form : Int) (last : Bool) : ∀ (n : Nat) (l : List Int) (u : Int), l.length ≤ n → (∀ b ∈ l, 0 ≤ b ∧ b < 256) → (YtnonijganceneaaDoorDec.dall form last l u).1.length ≤ l.length ∧ (YtnonijganceneaaDoorDec.dall form last l u).2.1.length ≤ l.length
  | 0, l, u, h, _ => by
    obtain rfl : l = [] := List.eq_nil_of_length_eq_zero (by omega)
    exact ⟨Nat.le_refl _, Nat.le_refl _⟩
  | n + 1, l, u, h, hb => by
    by_cases e : l = []
    · subst e; exact ⟨Nat.le_refl _, Nat.le_refl _⟩
    · by_cases c : ((YtnonijganceneaaDoorDec.pieceP form l).2.2.2 && !last) = true
      · rw [YtnonijganceneaaDoorDec.dall_stop u e c]; exact ⟨Nat.zero_le _, Nat.zero_le _⟩
      · have hp := YtnonijganceneaaDoorDec.piece_bound form e hb
        rw [YtnonijganceneaaDoorDec.dall_cons u e hb (by simpa using c)]
        have := Decode.len form last n (l.drop (YtnonijganceneaaDoorDec.pieceP form l).2.1) (u + (YtnonijganceneaaDoorDec.pieceP form l).2.1) (by rw [List.length_drop]; omega) (fun b h => hb b (List.mem_of_mem_drop h))
        rw [List.length_drop] at this
        refine ⟨?_, ?_⟩
        · rw [List.length_cons]; omega
        · rw [List.length_append]
          split <;> simp only [List.length_cons, List.length_nil] <;> omega
theorem Decode.form (p : Int) : impl_isForm.f p = some (decide (1 ≤ p ∧ p ≤ 5)) ∧ spec_l02IsForm.f p = some (decide (1 ≤ p ∧ p ≤ 5)) := by
  unfold impl_isForm.f impl_in.f spec_l02IsForm.f
  by_cases a : p ≥ 1
  · rw [if_pos a]
    have : decide (p ≤ 5) = decide (1 ≤ p ∧ p ≤ 5) := decide_eq_decide.2 ⟨fun z => ⟨a, z⟩, fun z => z.2⟩
    rw [this]; exact ⟨rfl, rfl⟩
  · rw [if_neg a, decide_eq_false (fun z => a z.1)]; exact ⟨rfl, rfl⟩
theorem Decode.both (a0 : Int) (a1 : ByteArray) : ∃ c t b, spec_Decode.f a0 a1 = some (c, t, b) ∧ impl_Decode.f a0 a1 = some (c, t, b) ∧ b.length ≤ 65536 := by
  unfold spec_Decode.f impl_Decode.f impl_long.f
  simp only [Option.bind_some]
  by_cases c : (a1.size : Int) > 65536
  · rw [if_pos c, if_pos (decide_eq_true c)]; exact ⟨_, _, _, rfl, rfl, Nat.zero_le _⟩
  · rw [if_neg c, if_neg (by simpa using c), (Decode.form a0).1, (Decode.form a0).2]
    simp only [Option.bind_some]
    by_cases f : 1 ≤ a0 ∧ a0 ≤ 5
    · rw [if_pos (decide_eq_true f), if_pos (decide_eq_true f)]
      have hl := Decode.len a0 true _ (bytesOf a1) 0 (Nat.le_refl _) (YtnonijganceneaaDoorPts.bytes_range a1)
      rw [bytesOf_length] at hl
      unfold spec_l02Decode.f W_impl_decode.f impl_decode.D
      rw [if_pos (by omega), if_pos ⟨f, by omega⟩, Bool.not_false]
      obtain ⟨D, hD⟩ : ∃ D, YtnonijganceneaaDoorDec.dall a0 true (bytesOf a1) 0 = D := ⟨_, rfl⟩
      rw [hD] at hl ⊢
      simp only [Option.bind_some]
      unfold W_spec_l01Text.f
      rw [if_pos (by omega)]
      simp only [Option.bind_some]
      obtain ⟨X, hX⟩ : ∃ X, strOfNums (YtnonijganceneaaDoorPts.encs D.1) = X := ⟨_, rfl⟩
      rw [hX]
      by_cases d : (X.size : Int) > 65536
      · rw [if_pos d, if_pos (decide_eq_true d)]; exact ⟨_, _, _, rfl, rfl, Nat.zero_le _⟩
      · rw [if_neg d, if_neg (by simpa using d)]; exact ⟨_, _, _, rfl, rfl, by omega⟩
    · rw [if_neg (by simpa using f), if_neg (by simpa using f)]; exact ⟨_, _, _, rfl, rfl, Nat.zero_le _⟩
theorem FnExactDecode : laws_FnExactDecode.Pure := by
  intro a0 a1 _ hm
  unfold laws_FnExactDecode.f
  by_cases big : (a1.size : Int) > 1048576
  · rw [if_pos big]
  · rw [if_neg big]
    obtain ⟨c, t, b, h1, h2, hb⟩ := Decode.both a0 a1
    rw [h1, h2]
    simp only [Option.bind_some]
    have e1 : laws_eqDecoded.f c t b c t b = some true := by
      unfold laws_eqDecoded.f W_laws_eqInt64S.f
      rw [if_pos rfl, if_pos rfl, if_pos (by omega), decide_eq_true rfl]
      rfl
    have e2 : laws_markDecoded.f c t b 1 = some (1 + (b.length : Int), laws_markInt64S.marks 1 b.length) := by
      unfold laws_markDecoded.f W_laws_markInt64S.f
      rw [if_pos ⟨by omega, by omega, by omega⟩]
      rfl
    have e3 : laws_heldDecoded.f c t (laws_markInt64S.marks 1 b.length) 1 = some (1 + (b.length : Int)) := by
      have hl : (laws_markInt64S.marks 1 b.length).length = b.length := by simp [laws_markInt64S.marks]
      unfold laws_heldDecoded.f W_laws_heldInt64S.f
      rw [hl, if_pos ⟨⟨by omega, by omega, by omega⟩, rfl⟩]
      simp only [Option.bind_some]
      rw [if_neg (by omega)]
    have n : ¬ (1 + (b.length : Int) < 0) := by omega
    simp [e1, e2, e3, n]

end Go.Proofs.YtnonijganceneaaDoor.Pure
