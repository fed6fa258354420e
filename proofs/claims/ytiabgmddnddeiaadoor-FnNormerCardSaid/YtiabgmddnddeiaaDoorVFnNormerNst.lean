/- A plain text of the law FnNormer, what the law uses of it, taken out by a program of this session's (wip/tool/prune.py). -/
import Derived.Test.YtiabgmddnddeiaaDoorVFnNormerPts
import Derived.Test.YtiabgmddnddeiaaDoorVFnNormerNrm
import Derived.Test.YtiabgmddnddeiaaDoorVFnNormerVal
namespace Go.Proofs.YtiabgmddnddeiaaDoorNst
open Go.RowKit YtiabgmddnddeiaaDoorNrm YtiabgmddnddeiaaDoorPts Go.Proofs.YtiabgmddnddeiaaDoorW.PrintWords
set_option linter.unusedVariables false
set_option linter.unusedSimpArgs false
theorem dlen (k : Bool) (p : Int) : (YtiabgmddnddeiaaDoorNrm.dec k p).length ≤ 3 := by
  unfold YtiabgmddnddeiaaDoorNrm.dec
  repeat' split
  all_goals simp
theorem flen (k : Bool) (l : List Int) : (l.flatMap (YtiabgmddnddeiaaDoorNrm.dec k)).length ≤ 3 * l.length := by
  induction l with
  | nil => simp
  | cons x t ih => rw [List.flatMap_cons, List.length_append, List.length_cons]; have := dlen k x; omega
theorem cmp1_len : ∀ (t : List Int) (s : Int) (tail : List Int), (cmp1 s tail t).length ≤ 1 + tail.length + t.length
  | [], s, tail => by rw [cmp1, List.length_cons, List.length_nil]; omega
  | p :: t, s, tail => by
    rw [cmp1]
    split
    · have := cmp1_len t (pair s p) tail; rw [List.length_cons]; omega
    · split
      · have := cmp1_len t p []; rw [List.length_append, List.length_cons, List.length_cons]; rw [List.length_nil] at this; omega
      · have := cmp1_len t s (tail ++ [p]); rw [List.length_append, List.length_singleton] at this; rw [List.length_cons]; omega
theorem cmp0_len : ∀ (l : List Int), (cmp0 l).length ≤ l.length
  | [] => Nat.le_refl _
  | p :: t => by
    rw [cmp0]
    split
    · have := cmp1_len t p []; rw [List.length_nil] at this; rw [List.length_cons]; omega
    · have := cmp0_len t; rw [List.length_cons, List.length_cons]; omega
theorem nf_len (f : Int) (l : List Int) : (nf f l).length ≤ 3 * l.length := by
  have hd : ∀ k, (D k l).length ≤ 3 * l.length := fun k => by
    unfold D
    rw [(ord_perm _).length_eq]
    exact flen k l
  unfold nf
  split
  · exact hd _
  · exact Nat.le_trans (cmp0_len _) (hd _)
theorem range {l : List Int} (h : ∀ p ∈ l, isP p) : ∀ p ∈ l, 0 ≤ p ∧ p ≤ 1114111 := fun p hp => by
  have := h p hp
  unfold isP at this
  omega
def P (t : ByteArray) : List Int := pts (bytesOf t)
theorem P_isP (t : ByteArray) : ∀ p ∈ P t, isP p := pts_isP _ _ (Nat.le_refl _)
theorem P_len (t : ByteArray) : (P t).length ≤ t.size := by
  have := pts_length _ (bytesOf t) (Nat.le_refl _)
  rw [bytesOf_length] at this
  exact this
theorem P_str {l : List Int} (h : ∀ p ∈ l, isP p) : P (strOfNums (encs l)) = l := by
  unfold P
  rw [bytesOf_strOfNums (encs_bytes l), pts_encs, map_fix h]
def N (f : Int) (t : ByteArray) : ByteArray := strOfNums (encs (nf f (P t)))
def sh (t : ByteArray) : ByteArray := if (t.size : Int) > 65536 then ⟨#[]⟩ else t
def ok (f : Int) : Bool := decide (1 ≤ f ∧ f ≤ 4)
def NT (f : Int) (t : ByteArray) : ByteArray := if (t.size : Int) > 65536 ∨ ok f = false then ⟨#[]⟩ else sh (N f t)
theorem toList_inj {a b : ByteArray} (h : a.toList = b.toList) : a = b := by
  rw [ByteArray.toList_eq, ByteArray.toList_eq] at h
  apply bytesOf_inj
  unfold bytesOf
  rw [h]
theorem nil_list : (⟨#[]⟩ : ByteArray).toList = [] := by rw [ByteArray.toList_eq]
theorem sh_ne {t : ByteArray} (h : (sh t).toList ≠ []) : sh t = t ∧ (t.size : Int) ≤ 65536 := by
  unfold sh at h ⊢
  split at h
  · exact absurd nil_list h
  · rename_i c; rw [if_neg c]; exact ⟨rfl, by omega⟩
end Go.Proofs.YtiabgmddnddeiaaDoorNst
