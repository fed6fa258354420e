/- The law FnExactSentenceCuts in plain Lean: the two tell the same cuts of sentences, at every input. -/
import Derived.Test.YtiabgmddnddeiaaDoorQFnExactSentenceCutsx14
set_option linter.unusedVariables false
set_option linter.unusedSimpArgs false
namespace Go.Proofs.YtiabgmddnddeiaaDoor.Pure
open Go.RowKit Go.Proofs.YtiabgmddnddeiaaDoor.QFnExactSentenceCuts Go.Proofs.YtiabgmddnddeiaaDoorW.PrintWords Go.Proofs.YtiabgmddnddeiaaDoorW.PrintLast

theorem Sn.len (b : List Int) : (YtiabgmddnddeiaaDoorSen.cuts b).length ≤ b.length + 2 := by
  have sl : ∀ (F : List Int) (C : List Bool), (YtiabgmddnddeiaaDoorChr.sel F C).length ≤ F.length := by
    intro F
    induction F with
    | nil => intro C; simp [YtiabgmddnddeiaaDoorChr.sel]
    | cons f F ih =>
      intro C
      cases C with
      | nil => simp [YtiabgmddnddeiaaDoorChr.sel]
      | cons c C =>
        have := ih C
        rw [YtiabgmddnddeiaaDoorChr.sel, List.length_append, List.length_cons]
        split <;> simp <;> omega
  unfold YtiabgmddnddeiaaDoorSen.cuts
  split
  · simp
  · have h1 := sl (YtiabgmddnddeiaaDoorChr.fromsAt b 0) (YtiabgmddnddeiaaDoorSen.G (YtiabgmddnddeiaaDoorPts.pts b))
    rw [YtiabgmddnddeiaaDoorChr.fromsAt_length] at h1
    have h2 := YtiabgmddnddeiaaDoorPts.pts_length _ b (Nat.le_refl _)
    simp; omega
theorem FnExactSentenceCuts : laws_FnExactSentenceCuts.Pure := by
  intro t h0
  unfold laws_FnExactSentenceCuts.f
  by_cases c : (t.size : Int) > 1048576
  · rw [if_pos c]
  rw [if_neg c]
  obtain ⟨M, hM⟩ : ∃ M, (if (t.size : Int) > 65536 then [] else YtiabgmddnddeiaaDoorSen.cuts (bytesOf t)) = M := ⟨_, rfl⟩
  have hl := Sn.len (bytesOf t)
  rw [bytesOf_length] at hl
  have hm : M.length ≤ 100000000 := by
    rw [← hM]
    split
    · simp
    · omega
  have e1 : W_spec_SentenceCuts.f t = some M := by unfold W_spec_SentenceCuts.f; rw [if_pos (by omega), hM]
  have e2 : W_impl_SentenceCuts.f t = some M := by unfold W_impl_SentenceCuts.f; rw [if_pos (by omega), hM]
  have e3 : W_laws_eqInt64S.f M M = some true := by unfold W_laws_eqInt64S.f; rw [if_pos (by omega), decide_eq_true rfl]
  have e4 : W_laws_markInt64S.f M 1 = some (1 + (M.length : Int), laws_markInt64S.marks 1 M.length) := if_pos ⟨by omega, by omega, by omega⟩
  have hk : (laws_markInt64S.marks 1 M.length).length = M.length := by simp [laws_markInt64S.marks]
  have e5 : W_laws_heldInt64S.f (laws_markInt64S.marks 1 M.length) 1 = some (1 + (M.length : Int)) := by
    unfold W_laws_heldInt64S.f
    rw [hk, if_pos ⟨⟨by omega, by omega, by omega⟩, rfl⟩]
  have n0 : ¬ (1 + (M.length : Int)) < 0 := by omega
  rw [e1, Option.bind_some, e2, Option.bind_some, e3, Option.bind_some, if_pos rfl, e4, Option.bind_some]
  dsimp only
  rw [e5, Option.bind_some, if_neg n0, if_pos rfl, Option.bind_some, e3, Option.bind_some, if_pos rfl, Option.bind_some, if_neg n0, if_pos rfl]

end Go.Proofs.YtiabgmddnddeiaaDoor.Pure
