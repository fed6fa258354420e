/- The law FnEquivalent in plain Lean: two drawn texts are equivalent just if their C are one text, and a text is equivalent to its own D and C, at every input. -/
import Derived.Test.YtdkoofdfkhogoaaDoorQFnEquivalentx16
set_option linter.unusedVariables false
set_option linter.unusedSimpArgs false
namespace Go.Proofs.YtdkoofdfkhogoaaDoor.Pure
open Go.RowKit Go.Proofs.YtdkoofdfkhogoaaDoor.QFnEquivalent Go.Proofs.YtdkoofdfkhogoaaDoorW.PrintWords Go.Proofs.YtdkoofdfkhogoaaDoorW.PrintLast YtdkoofdfkhogoaaDoorNst YtdkoofdfkhogoaaDoorNrm

theorem Eqv.nt {f : Int} {t : ByteArray} (hf : 1 ≤ f ∧ f ≤ 4) (h : t.size ≤ 2400) : NT f t = N f t := by
  have hs := N_size f t
  unfold NT sh
  rw [if_neg (by rw [show ok f = true from decide_eq_true hf]; rintro (z | z); omega; cases z), if_neg (by omega)]
theorem Eqv.same (a b : ByteArray) : ((N 1 a).toList == (N 1 b).toList) = ((N 2 a).toList == (N 2 b).toList) := by
  have h12 : ∀ t, N 1 (N 2 t) = N 1 t := fun t => N_mate (f := 2) (by omega) t
  have h21 : ∀ t, N 2 (N 1 t) = N 2 t := fun t => N_mate (f := 1) (by omega) t
  rw [Bool.eq_iff_iff, beq_iff_eq, beq_iff_eq]
  constructor
  · intro h
    rw [← h21 a, ← h21 b, toList_inj h]
  · intro h
    rw [← h12 a, ← h12 b, toList_inj h]
theorem FnEquivalent : laws_FnEquivalent.Pure := by
  intro l h0 h1 h2
  unfold laws_FnEquivalent.f
  by_cases c : (l.length : Int) > 1048576
  · exact ⟨0, by rw [if_pos c]⟩
  obtain ⟨a, b, e, ha, hb⟩ := W_spec_DrawEquivalent.has (l := l) (by omega)
  refine ⟨1, ?_⟩
  rw [if_neg c, e]
  simp only [Option.bind_some]
  have sp : ∀ (f : Int) (t : ByteArray), t.size ≤ 2400 → W_spec_Normalize.f f t = some (NT f t) := fun f t h => if_pos (by omega)
  rw [sp 2 a (by omega), sp 2 b (by omega)]
  simp only [Option.bind_some]
  rw [if_neg (by omega), decide_eq_false (by omega), Eqv.nt (by omega) (by omega), Eqv.nt (by omega) hb, ← Eqv.same]
  have s1 := N_size 1 a
  have s2 := N_size 2 a
  simp only [laws_FnEquivalent.j0]
  rw [if_neg (by decide), impl_Equivalent.eq (by omega) (by omega), impl_Equivalent.eq (by omega) (by omega)]
  simp only [Option.bind_some]
  rw [if_pos (by rw [beq_iff_eq]), if_pos (by rw [beq_iff_eq, Bool.eq_iff_iff, beq_iff_eq, beq_iff_eq]; exact ⟨fun h => h.symm, fun h => h.symm⟩)]
  have im : ∀ f : Int, W_impl_Normalize.f f a = some (NT f a) := fun f => if_pos (by omega)
  rw [im 1, im 2]
  simp only [Option.bind_some]
  rw [Eqv.nt (by omega) (by omega), Eqv.nt (by omega) (by omega), impl_Equivalent.eq (by omega) (by omega), impl_Equivalent.eq (by omega) (by omega)]
  simp only [Option.bind_some]
  rw [N_N, if_pos (by rw [beq_iff_eq]), show N 1 (N 2 a) = N 1 a from N_mate (f := 2) (by omega) a, show ((N 1 a).toList == (N 1 a).toList) = true from beq_iff_eq.mpr rfl]

end Go.Proofs.YtdkoofdfkhogoaaDoor.Pure
