/- A plain text of the law FnExactShowPasses, what the law uses of it, taken out by a program of this session's (wip/tool/prune.py). -/
import Derived.Test.YtiabgmddnddeiaaDoorVFnExactShowPassesPts
import Derived.Lib.IndexAny
set_option linter.unusedVariables false
set_option linter.unusedSimpArgs false
namespace Go.Proofs.YtiabgmddnddeiaaDoorShp
open Go.RowKit Go.Proofs.YtiabgmddnddeiaaDoorPts Go.Proofs.YtiabgmddnddeiaaDoorW.PrintWords
def spc : List Int := [91, 93, 62, 124, 58, 32, 92]
def esc1 (b : Int) : List Int := if b = 10 then [92, 110] else if b ∈ spc then [92, b] else [b]
def esc (l : List Int) : List Int := l.flatMap esc1
theorem esc1_len (b : Int) : (esc1 b).length ≤ 2 := by unfold esc1; split; simp; split <;> simp
theorem esc_len : ∀ l : List Int, (esc l).length ≤ 2 * l.length
  | [] => Nat.le_refl _
  | b :: l => by
    have h1 := esc1_len b
    have h2 := esc_len l
    unfold esc at h2 ⊢
    rw [List.flatMap_cons, List.length_append, List.length_cons]
    omega
theorem esc_take {l : List Int} {i : Nat} (h : i < l.length) : esc (l.take (i + 1)) = esc (l.take i) ++ esc1 l[i] := by
  unfold esc
  rw [List.take_succ_eq_append_getElem h, List.flatMap_append]
  simp
set_option maxRecDepth 100000 in
theorem index_nat : ∀ n : Fin 256, decide (0 ≤ Lib.indexByte [91, 93, 62, 124, 58, 32, 92] n.val.toUInt8) = decide ((n.val : Int) ∈ spc) := by decide
theorem index_mem {b : Int} (h : 0 ≤ b ∧ b < 256) : Lib.indexByte [91, 93, 62, 124, 58, 32, 92] b.toNat.toUInt8 ≥ 0 ↔ b ∈ spc := by
  have := index_nat ⟨b.toNat, by omega⟩
  have e : ((b.toNat : Nat) : Int) = b := by omega
  simp only [e] at this
  exact decide_eq_decide.1 this
def nameL (n : Int) : List Int := if n = 0 then [110, 111, 110, 101] else if n = 1 then [68] else if n = 2 then [67] else if n = 3 then [75, 68] else [75, 67]
def bars (n : Int) : List Int := if n > 0 then 32 :: List.replicate n.toNat 124 else []
def oneL (a b c d : List Int) (n : Int) : List Int := esc a ++ [91] ++ esc b ++ [93] ++ esc c ++ [32, 62, 32] ++ esc d ++ bars n ++ [10]
end Go.Proofs.YtiabgmddnddeiaaDoorShp
