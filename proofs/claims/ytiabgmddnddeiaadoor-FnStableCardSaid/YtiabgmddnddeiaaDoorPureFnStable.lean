/- The law FnStable in plain Lean: a normal form of a drawn text is its own normal form, and the forms beside each other tell the same, at every input. -/
import Derived.Test.YtiabgmddnddeiaaDoorQFnStablex16
set_option linter.unusedVariables false
set_option linter.unusedSimpArgs false
namespace Go.Proofs.YtiabgmddnddeiaaDoor.Pure
open Go.RowKit Go.Proofs.YtiabgmddnddeiaaDoor.QFnStable Go.Proofs.YtiabgmddnddeiaaDoorW.PrintWords Go.Proofs.YtiabgmddnddeiaaDoorW.PrintLast YtiabgmddnddeiaaDoorNst YtiabgmddnddeiaaDoorNrm

theorem St.im {f : Int} {t : ByteArray} (h : t.size ≤ 100000) : W_impl_Normalize.f f t = some (NT f t) := if_pos (by omega)
theorem St.sp {f : Int} {t : ByteArray} (h : t.size ≤ 100000) : W_spec_Normalize.f f t = some (NT f t) := if_pos (by omega)
theorem St.size (f : Int) (t : ByteArray) : (NT f t).size ≤ 100000 := by
  unfold NT
  split
  · exact Nat.zero_le _
  · have := sh_size (N f t); omega
theorem St.step (t : ByteArray) (ht : t.size ≤ 100000) (f : Int) (hf : 1 ≤ f ∧ f ≤ 4) (hn : ∃ k, laws_FnStable.l0 k t (f + 1) = some true) : ∃ k, laws_FnStable.l0 k t f = some true := by
  obtain ⟨k, hk⟩ := hn
  have hw : wrap64 (f + 1) = f + 1 := by unfold wrap64; omega
  have hs := St.size f t
  -- the part behind
  have rest : (NT f t).toList ≠ [] ∨ t = ⟨#[]⟩ → laws_FnStable.j1 (k + 3) t f (NT f t) false = some true := by
    intro h
    simp only [laws_FnStable.j1]
    rw [if_neg (by decide), St.im hs]
    simp only [Option.bind_some]
    rw [NT_NT h, if_pos rfl, impl_IsNormal.eq (by omega)]
    simp only [Option.bind_some]
    rw [IsN_NT hf h]
    simp only [laws_FnStable.j2]
    rw [if_neg (by decide)]
    have j3 : laws_FnStable.j3 (k + 1) t f (NT f t) (mate f) = some true := by
      simp only [laws_FnStable.j3]
      rw [St.sp hs, St.sp ht]
      simp only [Option.bind_some]
      rw [hw]
      by_cases c1 : (NT (mate f) t).toList = []
      · rw [if_pos c1]; exact hk
      rw [if_neg c1]
      by_cases c2 : (NT (mate f) (NT f t)).toList = []
      · rw [if_pos c2]; exact hk
      rw [if_neg c2, St.im hs, St.im ht]
      simp only [Option.bind_some]
      rw [NT_mate hf h c2 c1, if_pos rfl]
      exact hk
    have hm : Int.tmod f 2 = f % 2 := Int.tmod_eq_emod_of_nonneg (by omega)
    rw [hm]
    by_cases c : f % 2 = 0
    · rw [if_pos c, show wrap64 (f - 1) = mate f by unfold mate wrap64; rw [if_pos c]; omega]; exact j3
    · rw [if_neg c, show wrap64 (f + 1) = mate f by unfold mate wrap64; rw [if_neg c]; omega]; exact j3
  by_cases c : (NT f t).toList = []
  · by_cases d : t.toList = []
    · refine ⟨k + 4, ?_⟩
      simp only [laws_FnStable.l0]
      rw [if_pos hf.2, St.im ht, St.sp ht]
      simp only [Option.bind_some]
      rw [if_pos trivial, if_pos c, d, show (([] : List UInt8) != []) = false from rfl]
      exact rest (.inr (toList_nil d))
    · refine ⟨k + 2, ?_⟩
      simp only [laws_FnStable.l0]
      rw [if_pos hf.2, St.im ht, St.sp ht]
      simp only [Option.bind_some]
      rw [if_pos trivial, if_pos c, show (t.toList != []) = true from bne_iff_ne.mpr d]
      simp only [laws_FnStable.j1]
      rw [if_pos trivial, hw]
      exact hk
  · refine ⟨k + 4, ?_⟩
    simp only [laws_FnStable.l0]
    rw [if_pos hf.2, St.im ht, St.sp ht]
    simp only [Option.bind_some]
    rw [if_pos trivial, if_neg c]
    exact rest (.inl c)
theorem FnStable : laws_FnStable.Pure := by
  intro l h0 h1 h2
  unfold laws_FnStable.f
  by_cases c : (l.length : Int) > 1048576
  · exact ⟨0, by rw [if_pos c]⟩
  obtain ⟨f, t, e, _, ht⟩ := W_spec_DrawNormalize.has (l := l) (by omega)
  have e5 : ∃ k, laws_FnStable.l0 k t 5 = some true := ⟨1, by simp only [laws_FnStable.l0]; rw [if_neg (by omega)]⟩
  have e4 := St.step t ht 4 (by omega) e5
  have e3 := St.step t ht 3 (by omega) e4
  have e2 := St.step t ht 2 (by omega) e3
  obtain ⟨k, hk⟩ := St.step t ht 1 (by omega) e2
  refine ⟨k, ?_⟩
  rw [if_neg c, e]
  exact hk

end Go.Proofs.YtiabgmddnddeiaaDoor.Pure
