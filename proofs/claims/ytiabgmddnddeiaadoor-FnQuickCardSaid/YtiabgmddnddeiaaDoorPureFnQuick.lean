/- The law FnQuick in plain Lean: a drawn text of which the quick check says yes is normal, one of which it says no is not, at every input. -/
import Derived.Test.YtiabgmddnddeiaaDoorQFnQuickx17
set_option linter.unusedVariables false
set_option linter.unusedSimpArgs false
namespace Go.Proofs.YtiabgmddnddeiaaDoor.Pure
open Go.RowKit Go.Proofs.YtiabgmddnddeiaaDoor.QFnQuick Go.Proofs.YtiabgmddnddeiaaDoorW.PrintWords Go.Proofs.YtiabgmddnddeiaaDoorW.PrintLast
theorem FnQuick : laws_FnQuick.Pure := by
  intro l h0 h1 h2 d hd
  obtain ⟨f, t⟩ := d
  simp only at hd
  unfold laws_FnQuick.f
  by_cases c : (l.length : Int) > 1048576
  · rw [if_pos c]
  rw [if_neg c]
  simp only [Option.bind_some]
  unfold impl_QuickCheck.f W_spec_QuickCheck.f
  rw [if_pos (by omega)]
  simp only [Option.bind_some]
  rw [if_pos trivial]
  by_cases e1 : YtiabgmddnddeiaaDoorQck.QC f t = 1
  · rw [if_pos e1, impl_IsNormal.eq (by omega)]
    simp only [Option.bind_some]
    rw [YtiabgmddnddeiaaDoorQck.QC_yes e1]
  · rw [if_neg e1]
    by_cases e2 : YtiabgmddnddeiaaDoorQck.QC f t = 2
    · rw [if_pos e2, impl_IsNormal.eq (by omega)]
      simp only [Option.bind_some]
      rw [YtiabgmddnddeiaaDoorQck.QC_no e2]; rfl
    · rw [if_neg e2]
end Go.Proofs.YtiabgmddnddeiaaDoor.Pure
