/- The law FnJoinNormal in plain Lean: two drawn normal texts, joined, are the normal form of both together, and normal, at every input. -/
import Derived.Test.YtiabgmddnddeiaaDoorQFnJoinNormalx18
set_option linter.unusedVariables false
set_option linter.unusedSimpArgs false
namespace Go.Proofs.YtiabgmddnddeiaaDoor.Pure
open Go.RowKit Go.Proofs.YtiabgmddnddeiaaDoor.QFnJoinNormal Go.Proofs.YtiabgmddnddeiaaDoorW.PrintWords Go.Proofs.YtiabgmddnddeiaaDoorW.PrintLast YtiabgmddnddeiaaDoorNst YtiabgmddnddeiaaDoorNrm

theorem FnJoinNormal : laws_FnJoinNormal.Pure := by
  intro l h0 h1 h2
  unfold laws_FnJoinNormal.f
  by_cases c : (l.length : Int) > 1048576
  · exact ⟨0, by rw [if_pos c]⟩
  obtain ⟨f, a, b, e, hf, ha, hb⟩ := W_spec_DrawJoinNormal.has (l := l) (by omega)
  refine ⟨1, ?_⟩
  rw [if_neg c, e]
  simp only [Option.bind_some]
  have e1 : W_impl_JoinNormal.f f a b = some (JN f a b) := if_pos ⟨by omega, by omega⟩
  have e2 : W_spec_JoinNormal.f f a b = some (JN f a b) := if_pos ⟨by omega, by omega⟩
  rw [e1, e2]
  simp only [Option.bind_some]
  rw [if_pos trivial, spec_IsNormal.eq (by omega), spec_IsNormal.eq (by omega)]
  simp only [Option.bind_some]
  have skip : ∀ j : ByteArray, laws_FnJoinNormal.j0 1 f a b j true = some true := by
    intro j
    simp only [laws_FnJoinNormal.j0]
    rw [if_pos trivial]
  cases hA : IsN f a with
  | false => rw [if_neg (by decide)]; exact skip _
  | true =>
    rw [if_pos rfl]
    cases hB : IsN f b with
    | false => rw [if_neg (by decide)]; exact skip _
    | true =>
      rw [if_pos rfl]
      have hw : wrap64 ((a.size : Int) + (b.size : Int)) = (a.size : Int) + b.size := by unfold wrap64; omega
      rw [hw]
      clear hw
      by_cases big : (a.size : Int) + b.size > 65536
      · rw [decide_eq_true big]; exact skip _
      rw [decide_eq_false big]
      have hok : ok f = true := by
        unfold IsN at hA
        split at hA
        · cases hA
        · rename_i c2
          cases ho : ok f with
          | false => exact absurd (.inr ho) c2
          | true => rfl
      have hj : JN f a b = sh (N f (a ++ b)) := if_pos ⟨hA, hB⟩
      have hs : (a ++ b).size = a.size + b.size := ByteArray.size_append
      have hnt : NT f (a ++ b) = sh (N f (a ++ b)) := by
        unfold NT
        rw [if_neg (by rw [hok]; rintro (z | z); omega; cases z)]
      simp only [laws_FnJoinNormal.j0]
      rw [if_neg (by decide), if_pos (by omega)]
      unfold W_impl_Normalize.f
      rw [if_pos (by omega)]
      simp only [Option.bind_some]
      rw [hj, hnt, if_pos rfl, impl_IsNormal.eq (by have := sh_size (N f (a ++ b)); omega)]
      simp only [Option.bind_some]
      rw [← hnt]
      by_cases z : (NT f (a ++ b)).toList = []
      · have := IsN_NT (f := f) (of_decide_eq_true hok) (t := ⟨#[]⟩) (.inr rfl)
        rw [NT_empty] at this
        rw [toList_nil z, this]
      · rw [IsN_NT (of_decide_eq_true hok) (.inl z)]

end Go.Proofs.YtiabgmddnddeiaaDoor.Pure
