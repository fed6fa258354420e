/- The law FnChars in plain Lean: the characters of a drawn text are the text, each by itself is one, and the next cut and the last one are side by side, at every input. -/
import Derived.Test.YtiabgmddnddeiaaDoorQFnCharsx13
set_option linter.unusedVariables false
set_option linter.unusedSimpArgs false
namespace Go.Proofs.YtiabgmddnddeiaaDoor.Pure
open Go.RowKit Go.Proofs.YtiabgmddnddeiaaDoor.QFnChars Go.Proofs.YtiabgmddnddeiaaDoorW.PrintWords Go.Proofs.YtiabgmddnddeiaaDoorW.PrintLast YtiabgmddnddeiaaDoorChr

theorem Ch.chars {t : ByteArray} (h : t.size ≤ 10000) : impl_Chars.f t = some (pcs t (places (bytesOf t))) := by
  unfold impl_Chars.f impl_long.f W_impl_chars.f
  rw [decide_eq_false (by omega), if_pos (by omega)]
  rfl
theorem Ch.cuts {t : ByteArray} (h : t.size ≤ 10000) : impl_CharCuts.f t = some (places (bytesOf t)) := by
  unfold impl_CharCuts.f impl_long.f W_impl_charPlaces.f
  rw [decide_eq_false (by omega), if_pos (by omega)]
  rfl
theorem Ch.scuts {t : ByteArray} (h : t.size ≤ 10000) : spec_CharCuts.f t = some (places (bytesOf t)) := by
  unfold spec_CharCuts.f W_spec_l07Chars.f
  rw [if_neg (by omega), if_pos (by omega)]
  rfl
theorem Ch.schars {t : ByteArray} (h : t.size ≤ 10000) : spec_Chars.f t = some (pcs t (places (bytesOf t))) := by
  unfold spec_Chars.f
  rw [Ch.scuts h]
  simp only [Option.bind_some]
  unfold W_spec_l07Pieces.f
  rw [if_pos ⟨by omega, rfl⟩]
  rfl
theorem Ch.loop1 (d : ByteArray) (t : ByteArray) (h : t.size ≤ 10000) (M : List Int) (hM : places (bytesOf t) = M) (hi : Inc M) (hl : M.length ≤ 20000) (n : Nat) : ∀ (i : Nat), M.length - i = n → i ≤ M.length → ∃ k, laws_FnChars.l1 d k t M (i : Int) = some true := by
  induction n with
  | zero =>
    intro i h0 h1
    refine ⟨2, ?_⟩
    have hw : wrap64 ((i : Int) + 1) = ((i + 1 : Nat) : Int) := by unfold wrap64; omega
    simp only [laws_FnChars.l1]
    rw [hw, if_neg (by omega)]
    simp only [laws_FnChars.j3]
    rw [if_neg (by decide)]
  | succ n ih =>
    intro i h0 h1
    have hw : wrap64 ((i : Int) + 1) = ((i + 1 : Nat) : Int) := by unfold wrap64; omega
    by_cases c : i + 1 < M.length
    · by_cases c5 : (i : Int) < 50
      · obtain ⟨k, hk⟩ := ih (i + 1) (by omega) (by omega)
        refine ⟨k + 2, ?_⟩
        have hi0 : i < M.length := by omega
        have r0 : rd M (i : Int) = M[i] := by simp [rd, List.getD, hi0]
        have r1 : rd M ((i + 1 : Nat) : Int) = M[i + 1] := by simp only [rd, Int.toNat_natCast, List.getD_eq_getElem?_getD, List.getElem?_eq_getElem c]; rfl
        simp only [laws_FnChars.l1]
        rw [hw, if_pos (by omega), decide_eq_true c5]
        simp only [laws_FnChars.j3]
        rw [if_pos trivial, if_pos (by omega), if_pos (by omega), hw, r0, r1]
        unfold W_impl_NextChar.f W_impl_LastChar.f
        rw [if_pos (by omega), hM, nextC_inc M i c hi]
        simp only [Option.bind_some]
        rw [if_pos (by omega), if_pos (by omega), if_pos trivial, if_pos (by omega), lastC_inc M i c _ hi]
        simp only [Option.bind_some]
        rw [if_pos trivial]
        exact hk
      · refine ⟨2, ?_⟩
        simp only [laws_FnChars.l1]
        rw [hw, if_pos (by omega), decide_eq_false c5]
        simp only [laws_FnChars.j3]
        rw [if_neg (by decide)]
    · refine ⟨2, ?_⟩
      simp only [laws_FnChars.l1]
      rw [hw, if_neg (by omega)]
      simp only [laws_FnChars.j3]
      rw [if_neg (by decide)]
theorem Ch.loop0 (d : ByteArray) (t : ByteArray) (C : List ByteArray) (M : List Int) (hC : ∀ x ∈ C, places (bytesOf x) = [0, (x.size : Int)] ∧ x.size ≤ 10000) (hl : C.length ≤ 20000) (h1 : ∃ k, laws_FnChars.l1 d k t M 0 = some true) (n : Nat) : ∀ (i : Nat), C.length - i = n → i ≤ C.length → ∃ k, laws_FnChars.l0 d k t C M (i : Int) = some true := by
  induction n with
  | zero =>
    intro i h0 h2
    obtain ⟨k, hk⟩ := h1
    refine ⟨k + 1, ?_⟩
    simp only [laws_FnChars.l0]
    rw [if_neg (by omega)]
    exact hk
  | succ n ih =>
    intro i h0 h2
    have hlt : i < C.length := by omega
    have hw : wrap64 ((i : Int) + 1) = ((i + 1 : Nat) : Int) := by unfold wrap64; omega
    obtain ⟨k, hk⟩ := ih (i + 1) (by omega) (by omega)
    refine ⟨k + 1, ?_⟩
    have hr : rdOf ByteArray.empty C (i : Int) = C[i] := by simp [rdOf, List.getD, hlt]
    have hx := hC _ (List.getElem_mem hlt)
    simp only [laws_FnChars.l0]
    rw [if_pos (by omega), if_pos (by omega), hr, Ch.chars hx.2, hx.1, pcs_self]
    simp only [Option.bind_some]
    unfold W_laws_lwTexts.f
    rw [if_pos ⟨rfl, by simp⟩]
    simp only [Option.bind_some]
    rw [if_pos trivial, hw]
    exact hk
theorem FnChars : laws_FnChars.Pure := by
  intro l0 h0 h1 h2 t ht
  have ht : t.size ≤ 10000 := ht
  by_cases c : (l0.length : Int) > 1048576
  · exact ⟨0, by unfold laws_FnChars.f; rw [if_pos c]⟩
  obtain ⟨a1, a2, a3⟩ := chars_all t
  have hl := places_length (bytesOf t)
  rw [bytesOf_length] at hl
  have hpl := pcs_length t (places (bytesOf t))
  have hinc : Inc (places (bytesOf t)) := fun j hj => (a3 j hj).2.1
  have hxs : ∀ x ∈ pcs t (places (bytesOf t)), places (bytesOf x) = [0, (x.size : Int)] ∧ x.size ≤ 10000 := by
    intro x hx
    refine ⟨a2 x hx, ?_⟩
    obtain ⟨u, v, e⟩ := List.append_of_mem hx
    have := congrArg List.length a1
    rw [e, List.flatMap_append, List.length_append, List.flatMap_cons, List.length_append, bytesOf_length, bytesOf_length] at this
    omega
  obtain ⟨k, hk⟩ := Ch.loop0 t t (pcs t (places (bytesOf t))) (places (bytesOf t)) hxs (by omega) (Ch.loop1 t t ht _ rfl hinc (by omega) _ 0 rfl (Nat.zero_le _)) _ 0 rfl (Nat.zero_le _)
  refine ⟨k + 1, ?_⟩
  unfold laws_FnChars.f
  rw [if_neg c]
  simp only [Option.bind_some]
  rw [Ch.chars ht, Ch.cuts ht, Ch.schars ht]
  simp only [Option.bind_some]
  have e1 : W_laws_lwTexts.f (pcs t (places (bytesOf t))) (pcs t (places (bytesOf t))) = some true := if_pos ⟨rfl, by omega⟩
  have e2 : W_laws_lwSame.f (places (bytesOf t)) (places (bytesOf t)) = some true := by
    unfold W_laws_lwSame.f
    rw [if_pos (by omega), decide_eq_true rfl]
  have e3 : W_laws_lwJoin.f (pcs t (places (bytesOf t))) = some t := by
    unfold W_laws_lwJoin.f
    rw [a1, if_pos ⟨by omega, by rw [bytesOf_length]; omega⟩, YtiabgmddnddeiaaDoorPts.strOfNums_bytesOf]
  rw [e1, Ch.scuts ht]
  simp only [Option.bind_some]
  rw [if_pos trivial, e2]
  simp only [Option.bind_some]
  rw [if_pos trivial, e3]
  simp only [Option.bind_some]
  have e4 : (t.toList != t.toList) = false := bne_self_eq_false _
  rw [e4]
  simp only [laws_FnChars.j0]
  rw [if_neg (by decide)]
  exact hk

end Go.Proofs.YtiabgmddnddeiaaDoor.Pure
