/- A plain text of the law FnNormer, what the law uses of it, taken out by a program of this session's (wip/tool/prune.py). -/
import Derived.Test.YtiabgmddnddeiaaDoorVFnNormerNst
set_option linter.unusedVariables false
set_option linter.unusedSimpArgs false
namespace Go.Proofs.YtiabgmddnddeiaaDoorNmr
open Go.RowKit YtiabgmddnddeiaaDoorNrm YtiabgmddnddeiaaDoorPts YtiabgmddnddeiaaDoorNst Go.Proofs.YtiabgmddnddeiaaDoorW.PrintWords
instance (k : Bool) (p : Int) : Decidable (safe k p) := inferInstanceAs (Decidable (_ ∧ _))
def sf (f p : Int) : Bool := decide (safe (decide (3 ≤ f)) p)
def tailBad (f : Int) (l : List Int) : Bool := l.tail.all (fun p => !sf f p)
def NF (f : Int) (t : ByteArray) : Int := if ok f = true ∧ (t.size : Int) ≤ 1000 ∧ Lib.validD t.data.toList = true ∧ tailBad f (P t) = true then 0 else 1
def cutF (f : Int) : List Int → Nat → Nat → Nat
  | [], _, a => a
  | p :: t, i, a => cutF f t (i + 1) (if sf f p = true then i else a)
def cut (f : Int) (l : List Int) : Nat := cutF f l 0 0
def S (l : List Int) : ByteArray := strOfNums (encs l)
def FD (f : Int) (h t : ByteArray) : Int × Int × ByteArray × ByteArray :=
  if (t.size : Int) > 65536 then (2, 0, ⟨#[]⟩, ⟨#[]⟩)
  else if NF f h = 0 then
    (if ((S ((P h ++ P t).drop (cut f (P h ++ P t)))).size : Int) > 1000 then (8, 0, ⟨#[]⟩, ⟨#[]⟩)
     else if ((S (nf f ((P h ++ P t).take (cut f (P h ++ P t))))).size : Int) > 65536 then (2, 0, ⟨#[]⟩, ⟨#[]⟩)
     else (0, f, S ((P h ++ P t).drop (cut f (P h ++ P t))), S (nf f ((P h ++ P t).take (cut f (P h ++ P t))))))
  else (1, 0, ⟨#[]⟩, ⟨#[]⟩)
def FS (f : Int) (h t : ByteArray) : Int × Int × ByteArray × ByteArray :=
  if (t.size : Int) > 65536 then (2, 0, ⟨#[]⟩, ⟨#[]⟩)
  else if NF f h = 0 then
    (if ((S (nf f ((P h ++ P t).take (cut f (P h ++ P t))))).size : Int) > 65536 then (2, 0, ⟨#[]⟩, ⟨#[]⟩)
     else if ((S ((P h ++ P t).drop (cut f (P h ++ P t)))).size : Int) > 1000 then (8, 0, ⟨#[]⟩, ⟨#[]⟩)
     else (0, f, S ((P h ++ P t).drop (cut f (P h ++ P t))), S (nf f ((P h ++ P t).take (cut f (P h ++ P t))))))
  else (1, 0, ⟨#[]⟩, ⟨#[]⟩)
def good (f : Int) (l : List Int) (a : Nat) : Prop := (a = 0 ∨ (a < l.length ∧ sf f (l.getD a 0) = true)) ∧ ∀ j, a < j → j < l.length → sf f (l.getD j 0) = false
theorem cutF_good (f : Int) : ∀ (t pre : List Int) (a : Nat), good f pre a → good f (pre ++ t) (cutF f t pre.length a)
  | [], pre, a, h => by rw [List.append_nil]; exact h
  | p :: t, pre, a, h => by
    have hg : ∀ j, j < pre.length → (pre ++ [p]).getD j 0 = pre.getD j 0 := by
      intro j hj; simp [List.getD, List.getElem?_append_left hj]
    have hl : (pre ++ [p]).getD pre.length 0 = p := by simp [List.getD]
    have ih := cutF_good f t (pre ++ [p]) (if sf f p = true then pre.length else a) (by
      by_cases c : sf f p = true
      · rw [if_pos c]
        exact ⟨.inr ⟨by simp, by rw [hl]; exact c⟩, fun j h1 h2 => by rw [List.length_append] at h2; simp at h2; omega⟩
      · rw [if_neg c]
        refine ⟨?_, fun j h1 h2 => ?_⟩
        · rcases h.1 with e | ⟨e1, e2⟩
          · exact .inl e
          · exact .inr ⟨by simp; omega, by rw [hg a e1]; exact e2⟩
        · rw [List.length_append] at h2
          simp only [List.length_cons, List.length_nil] at h2
          by_cases e : j < pre.length
          · rw [hg j e]; exact h.2 j h1 e
          · obtain rfl : j = pre.length := by omega
            rw [hl]; exact Bool.eq_false_iff.2 c)
    rw [List.length_append, List.append_assoc] at ih
    exact ih
theorem cut_good (f : Int) (l : List Int) : good f l (cut f l) := by
  have := cutF_good f l [] 0 ⟨.inl rfl, fun j _ h => by cases h⟩
  rw [List.nil_append] at this
  exact this
theorem cut_lt {f : Int} {l : List Int} (h : l ≠ []) : cut f l < l.length := by
  have := List.length_pos_iff.2 h
  rcases (cut_good f l).1 with e | e
  · omega
  · exact e.1
theorem drop_head {l : List Int} {a : Nat} (h : a < l.length) : l.drop a = l.getD a 0 :: l.drop (a + 1) := by
  rw [List.drop_eq_getElem_cons h]; simp [List.getD, h]
theorem drop_bad (f : Int) (l : List Int) : tailBad f (l.drop (cut f l)) = true := by
  unfold tailBad
  rw [List.tail_drop, List.all_eq_true]
  intro p hp
  obtain ⟨j, hj, rfl⟩ := List.mem_iff_getElem.1 hp
  rw [List.length_drop] at hj
  have := (cut_good f l).2 (cut f l + 1 + j) (by omega) (by omega)
  rw [List.getElem_drop]
  have e : l.getD (cut f l + 1 + j) 0 = l[cut f l + 1 + j]'(by omega) := by simp [List.getD, show cut f l + 1 + j < l.length by omega]
  rw [e] at this
  rw [this]; rfl
theorem P_S {l : List Int} (h : ∀ p ∈ l, isP p) : P (S l) = l := P_str h
theorem S_size (l : List Int) : (S l).size ≤ 4 * l.length := by
  have := YtiabgmddnddeiaaDoorPts.encs_length l
  unfold S; rw [strOfNums_size]; omega
theorem S_app (a b : List Int) : S a ++ S b = S (a ++ b) := by
  apply bytesOf_inj
  unfold S
  rw [YtiabgmddnddeiaaDoorPts.encs_append, bytesOf_strOfNums (fun x hx => by rcases List.mem_append.1 hx with h | h; exact encs_bytes _ _ h; exact encs_bytes _ _ h)]
  have : bytesOf (strOfNums (encs a) ++ strOfNums (encs b)) = bytesOf (strOfNums (encs a)) ++ bytesOf (strOfNums (encs b)) := by
    simp [bytesOf]
  rw [this, bytesOf_strOfNums (encs_bytes _), bytesOf_strOfNums (encs_bytes _)]
theorem S_valid {l : List Int} (h : ∀ p ∈ l, isP p) : Lib.validD (S l).data.toList = true := by
  rw [YtiabgmddnddeiaaDoorVal.well]
  apply decide_eq_true
  have e := P_S h
  unfold P at e
  rw [e]
  unfold S
  rw [bytesOf_strOfNums (encs_bytes _)]
theorem S_nil : S [] = ⟨#[]⟩ := rfl
structure Inv (f : Int) (T : List Int) (out h : ByteArray) (l : List Int) where
  a : List Int
  hd : List Int
  hT : T = a ++ hd ++ l
  ho : out = S (nf f a)
  hh : h = S hd
  hs : a = [] ∨ ∃ x t, hd = x :: t ∧ sf f x = true
  hb : tailBad f hd = true
def Inv.start (f : Int) (T : List Int) : Inv f T ⟨#[]⟩ ⟨#[]⟩ T := ⟨[], [], rfl, by rw [nf_nil]; rfl, rfl, .inl rfl, rfl⟩
theorem Inv.step {f : Int} {T : List Int} {out h : ByteArray} {l c : List Int} (hf : ok f = true) (hT : ∀ p ∈ T, isP p) (hn : T.length ≤ 1000) (I : Inv f T out h l) (k : Nat) (hk : 1 ≤ k) (hkl : k ≤ l.length) (hz : (h.size : Int) ≤ 1000) :
    NF f h = 0 ∧ (((FD f h (S (l.take k))).1 = 8 ∧ (FS f h (S (l.take k))).1 = 8) ∨ ∃ h2 o2, FD f h (S (l.take k)) = (0, f, h2, o2) ∧ (h2.size : Int) ≤ 1000 ∧ NF f h2 = 0 ∧ Nonempty (Inv f T (out ++ o2) h2 (l.drop k))) := by
  obtain ⟨a, hd, eT, ho, rfl, hs, hb⟩ := I
  have hlen : a.length + hd.length + l.length ≤ 1000 := by rw [eT] at hn; simpa [Nat.add_assoc] using hn
  have i1 : ∀ p ∈ hd, isP p := fun p hp => hT p (by rw [eT]; simp [hp])
  have i2 : ∀ p ∈ l, isP p := fun p hp => hT p (by rw [eT]; simp [hp])
  have i3 : ∀ p ∈ l.take k, isP p := fun p hp => i2 p (List.mem_of_mem_take hp)
  have hNF : NF f (S hd) = 0 := by
    unfold NF
    rw [if_pos ⟨hf, hz, S_valid i1, by rw [P_S i1]; exact hb⟩]
  refine ⟨hNF, ?_⟩
  obtain ⟨L, hL⟩ : ∃ L, hd ++ l.take k = L := ⟨_, rfl⟩
  have iL : ∀ p ∈ L, isP p := by
    intro p hp; rw [← hL] at hp
    rcases List.mem_append.1 hp with z | z
    · exact i1 p z
    · exact i3 p z
  have hLn : L ≠ [] := by
    intro z
    have := congrArg List.length (hL.trans z)
    rw [List.length_append, List.length_take, List.length_nil] at this
    omega
  have hLl : L.length ≤ 1000 := by rw [← hL, List.length_append, List.length_take]; omega
  have hsz : ((S (l.take k)).size : Int) ≤ 65536 := by have := S_size (l.take k); rw [List.length_take] at this; omega
  have hnl := nf_len f (L.take (cut f L))
  have hnz := S_size (nf f (L.take (cut f L)))
  rw [List.length_take] at hnl
  have hcl := cut_lt (f := f) hLn
  have c2 : ¬ ((S (nf f (L.take (cut f L)))).size : Int) > 65536 := by omega
  unfold FD FS
  have c0 : ¬ ((S (l.take k)).size : Int) > 65536 := by omega
  simp only [if_neg c0, if_pos hNF, P_S i1, P_S i3, hL]
  by_cases c : ((S (L.drop (cut f L))).size : Int) > 1000
  · left
    rw [if_pos c, if_neg c2, if_pos c]
    exact ⟨rfl, rfl⟩
  · right
    rw [if_neg c, if_neg c2]
    have iD : ∀ p ∈ L.drop (cut f L), isP p := fun p hp => iL p (List.mem_of_mem_drop hp)
    have c3 : ((S (L.drop (cut f L))).size : Int) ≤ 1000 := by omega
    refine ⟨_, _, rfl, c3, ?_, ⟨⟨a ++ L.take (cut f L), L.drop (cut f L), ?_, ?_, rfl, ?_, drop_bad f L⟩⟩⟩
    · unfold NF
      rw [if_pos ⟨hf, c3, S_valid iD, by rw [P_S iD]; exact drop_bad f L⟩]
    · rw [List.append_assoc a, List.take_append_drop, ← hL, eT]
      simp [List.take_append_drop]
    · rw [ho, S_app]
      congr 1
      by_cases z : cut f L = 0
      · rw [z]; simp [nf_nil]
      · rcases hs with e | ⟨x, t, e1, e2⟩
        · rw [e]; simp [nf_nil]
        · have : ∃ u, L.take (cut f L) = x :: u := by
            rw [← hL, e1]
            obtain ⟨m, hm⟩ : ∃ m, cut f (x :: t ++ l.take k) = m + 1 := ⟨cut f L - 1, by rw [← hL, e1] at z; rw [← hL, e1]; omega⟩
            rw [hm]; exact ⟨_, rfl⟩
          obtain ⟨u, hu⟩ := this
          rw [hu, nf_split (of_decide_eq_true e2)]
    · by_cases z : cut f L = 0
      · rcases hs with e | ⟨x, t, e1, e2⟩
        · left; rw [e, z]; rfl
        · right; rw [z]
          exact ⟨x, t ++ l.take k, by rw [List.drop_zero, ← hL, e1]; rfl, e2⟩
      · right
        rcases (cut_good f L).1 with e | ⟨e1, e2⟩
        · exact absurd e z
        · exact ⟨_, _, drop_head e1, e2⟩
theorem Inv.done {f : Int} {T : List Int} {out h : ByteArray} (I : Inv f T out h []) (hT : ∀ p ∈ T, isP p) : out ++ N f h = S (nf f T) := by
  obtain ⟨a, hd, eT, ho, rfl, hs, hb⟩ := I
  rw [List.append_nil] at eT
  have i1 : ∀ p ∈ hd, isP p := fun p hp => hT p (by rw [eT]; simp [hp])
  have : N f (S hd) = S (nf f hd) := by unfold N; rw [P_S i1]; rfl
  rw [this, ho, S_app, eT]
  congr 1
  rcases hs with e | ⟨x, t, e1, e2⟩
  · rw [e]; simp [nf_nil]
  · rw [e1, nf_split (of_decide_eq_true e2)]
end Go.Proofs.YtiabgmddnddeiaaDoorNmr
