/- A plain text of the law FnQuick, what the law uses of it, taken out by a program of this session's (wip/tool/prune.py). -/
import Derived.Test.YtiabgmddnddeiaaDoorVFnQuickPts
import Derived.Test.YtiabgmddnddeiaaDoorVFnQuickNrm
import Derived.Test.YtiabgmddnddeiaaDoorVFnQuickVal
namespace Go.Proofs.YtiabgmddnddeiaaDoorNst
open Go.RowKit YtiabgmddnddeiaaDoorNrm YtiabgmddnddeiaaDoorPts Go.Proofs.YtiabgmddnddeiaaDoorW.PrintWords
set_option linter.unusedVariables false
set_option linter.unusedSimpArgs false
theorem dlen (k : Bool) (p : Int) : (YtiabgmddnddeiaaDoorNrm.dec k p).length ≤ 3 := by
  unfold YtiabgmddnddeiaaDoorNrm.dec
  repeat' split
  all_goals simp
theorem flen (k : Bool) (l : List Int) : (l.flatMap (YtiabgmddnddeiaaDoorNrm.dec k)).length ≤ 3 * l.length := by
  induction l with
  | nil => simp
  | cons x t ih => rw [List.flatMap_cons, List.length_append, List.length_cons]; have := dlen k x; omega
theorem cmp1_in : ∀ (t : List Int) (s : Int) (tail : List Int), ∀ q ∈ cmp1 s tail t, q = s ∨ q ∈ tail ∨ q ∈ t ∨ comp q
  | [], s, tail => by
    intro q hq
    rw [cmp1] at hq
    rcases List.mem_cons.1 hq with rfl | hq
    · exact .inl rfl
    · exact .inr (.inl hq)
  | p :: t, s, tail => by
    intro q hq
    rw [cmp1] at hq
    split at hq
    · rename_i c
      rcases cmp1_in t _ _ q hq with rfl | h | h | h
      · exact .inr (.inr (.inr (pair_comp c.2)))
      · exact .inr (.inl h)
      · exact .inr (.inr (.inl (by simp [h])))
      · exact .inr (.inr (.inr h))
    · split at hq
      · rcases List.mem_append.1 hq with hq | hq
        · rcases List.mem_cons.1 hq with rfl | hq
          · exact .inl rfl
          · exact .inr (.inl hq)
        · rcases cmp1_in t _ _ q hq with rfl | h | h | h
          · exact .inr (.inr (.inl (by simp)))
          · cases h
          · exact .inr (.inr (.inl (by simp [h])))
          · exact .inr (.inr (.inr h))
      · rcases cmp1_in t _ _ q hq with rfl | h | h | h
        · exact .inl rfl
        · rcases List.mem_append.1 h with h | h
          · exact .inr (.inl h)
          · exact .inr (.inr (.inl (by simp [List.mem_singleton.1 h])))
        · exact .inr (.inr (.inl (by simp [h])))
        · exact .inr (.inr (.inr h))
theorem cmp0_in : ∀ (l : List Int), ∀ q ∈ cmp0 l, q ∈ l ∨ comp q
  | [] => by intro q hq; cases hq
  | p :: t => by
    intro q hq
    rw [cmp0] at hq
    split at hq
    · rcases cmp1_in t _ _ q hq with rfl | h | h | h
      · exact .inl (by simp)
      · cases h
      · exact .inl (by simp [h])
      · exact .inr h
    · rcases List.mem_cons.1 hq with rfl | hq
      · exact .inl (by simp)
      · rcases cmp0_in t q hq with h | h
        · exact .inl (by simp [h])
        · exact .inr h
theorem dec_isP {k : Bool} {p : Int} (h : isP p) : ∀ q ∈ YtiabgmddnddeiaaDoorNrm.dec k p, isP q := by
  have hl := @letter_range (p % 512 / 8)
  intro q hq
  unfold isP at h ⊢
  unfold YtiabgmddnddeiaaDoorNrm.dec at hq
  repeat' split at hq
  all_goals simp only [List.mem_cons, List.mem_nil_iff, or_false] at hq
  all_goals omega
theorem nf_isP {f : Int} {l : List Int} (h : ∀ p ∈ l, isP p) : ∀ q ∈ nf f l, isP q := by
  have hd : ∀ k, ∀ q ∈ D k l, isP q := fun k q hq => by
    obtain ⟨p, hp, hq⟩ := List.mem_flatMap.1 (ord_mem.1 hq)
    exact dec_isP (h p hp) q hq
  intro q hq
  unfold nf at hq
  split at hq
  · exact hd _ q hq
  · rcases cmp0_in _ q hq with h | h
    · exact hd _ q h
    · unfold comp at h
      unfold isP
      omega
theorem cmp1_len : ∀ (t : List Int) (s : Int) (tail : List Int), (cmp1 s tail t).length ≤ 1 + tail.length + t.length
  | [], s, tail => by rw [cmp1, List.length_cons, List.length_nil]; omega
  | p :: t, s, tail => by
    rw [cmp1]
    split
    · have := cmp1_len t (pair s p) tail; rw [List.length_cons]; omega
    · split
      · have := cmp1_len t p []; rw [List.length_append, List.length_cons, List.length_cons]; rw [List.length_nil] at this; omega
      · have := cmp1_len t s (tail ++ [p]); rw [List.length_append, List.length_singleton] at this; rw [List.length_cons]; omega
theorem cmp0_len : ∀ (l : List Int), (cmp0 l).length ≤ l.length
  | [] => Nat.le_refl _
  | p :: t => by
    rw [cmp0]
    split
    · have := cmp1_len t p []; rw [List.length_nil] at this; rw [List.length_cons]; omega
    · have := cmp0_len t; rw [List.length_cons, List.length_cons]; omega
theorem nf_len (f : Int) (l : List Int) : (nf f l).length ≤ 3 * l.length := by
  have hd : ∀ k, (D k l).length ≤ 3 * l.length := fun k => by
    unfold D
    rw [(ord_perm _).length_eq]
    exact flen k l
  unfold nf
  split
  · exact hd _
  · exact Nat.le_trans (cmp0_len _) (hd _)
theorem range {l : List Int} (h : ∀ p ∈ l, isP p) : ∀ p ∈ l, 0 ≤ p ∧ p ≤ 1114111 := fun p hp => by
  have := h p hp
  unfold isP at this
  omega
def P (t : ByteArray) : List Int := pts (bytesOf t)
theorem P_isP (t : ByteArray) : ∀ p ∈ P t, isP p := pts_isP _ _ (Nat.le_refl _)
theorem P_len (t : ByteArray) : (P t).length ≤ t.size := by
  have := pts_length _ (bytesOf t) (Nat.le_refl _)
  rw [bytesOf_length] at this
  exact this
theorem P_str {l : List Int} (h : ∀ p ∈ l, isP p) : P (strOfNums (encs l)) = l := by
  unfold P
  rw [bytesOf_strOfNums (encs_bytes l), pts_encs, map_fix h]
def N (f : Int) (t : ByteArray) : ByteArray := strOfNums (encs (nf f (P t)))
theorem P_N (f : Int) (t : ByteArray) : P (N f t) = nf f (P t) := P_str (nf_isP (P_isP t))
def sh (t : ByteArray) : ByteArray := if (t.size : Int) > 65536 then ⟨#[]⟩ else t
def ok (f : Int) : Bool := decide (1 ≤ f ∧ f ≤ 4)
def NT (f : Int) (t : ByteArray) : ByteArray := if (t.size : Int) > 65536 ∨ ok f = false then ⟨#[]⟩ else sh (N f t)
def IsN (f : Int) (t : ByteArray) : Bool := if (t.size : Int) > 65536 ∨ ok f = false then false else (N f t).toList == t.toList
theorem toList_inj {a b : ByteArray} (h : a.toList = b.toList) : a = b := by
  rw [ByteArray.toList_eq, ByteArray.toList_eq] at h
  apply bytesOf_inj
  unfold bytesOf
  rw [h]
theorem sh_size (t : ByteArray) : (sh t).size ≤ 65536 := by
  unfold sh
  split
  · exact Nat.zero_le _
  · omega
theorem IsN_well {f : Int} {t : ByteArray} (h : (N f t).toList = t.toList) : Lib.validD t.data.toList = true := by
  rw [YtiabgmddnddeiaaDoorVal.well]
  apply decide_eq_true
  have e := toList_inj h
  have : bytesOf t = encs (nf f (P t)) := by
    rw [← e]
    unfold N
    rw [bytesOf_strOfNums (encs_bytes _)]
    rw [show P (strOfNums (encs (nf f (P t)))) = nf f (P t) from P_N f t, nf_nf]
  rw [this, pts_encs, map_fix (nf_isP (P_isP t))]
end Go.Proofs.YtiabgmddnddeiaaDoorNst
