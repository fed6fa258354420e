/- The law FnJoined in plain Lean: the reference's and the program's forms of a drawn text are the same, and a letter joined to the one behind has one joined to the one ahead there; at every input. -/
import Derived.Test.YtnonijganceneaaDoorQFnJoinedx12
set_option linter.unusedVariables false
set_option linter.unusedSimpArgs false
namespace Go.Proofs.YtnonijganceneaaDoor.Pure
open Go.RowKit Go.Proofs.YtnonijganceneaaDoor.QFnJoined Go.Proofs.YtnonijganceneaaDoorW.PrintWords Go.Proofs.YtnonijganceneaaDoorW.PrintLast

def Jo.tb (m : Int) : Int := if m = 0 then 3 else if m = 1 then 2 else if m = 2 then 3 else 0
def Jo.jt (p : Int) : Int := if 1280 ≤ p ∧ p ≤ 1311 then Jo.tb (p % 4) else if p = 7936 then 3 else if (impl_kind.g p).1 = 3 then -1 else 0
theorem Jo.tb_rd (m : Int) (h0 : 0 ≤ m) (h1 : m < 4) : rd [3, 2, 3, 0] m = Jo.tb m := by
  obtain rfl | rfl | rfl | rfl : m = 0 ∨ m = 1 ∨ m = 2 ∨ m = 3 := by omega
  all_goals rfl
theorem Jo.impl (p : Int) (h : 0 ≤ p) : impl_JoinsTo.f p = some (Jo.jt p) := by
  unfold impl_JoinsTo.f Jo.jt
  rw [impl_formsOf.in_]
  simp only [Option.bind_some]
  unfold impl_formsOf.lt
  by_cases c : 1280 ≤ p ∧ p ≤ 1311
  · have e : Int.tmod p 4 = p % 4 := Int.tmod_eq_emod_of_nonneg h
    rw [if_pos (by simp [c.1, c.2]), if_pos c, e, if_pos (by omega), if_pos (by simp only [List.length_cons, List.length_nil]; omega), Jo.tb_rd _ (by omega) (by omega)]
  · rw [if_neg (by simp; omega), if_neg c]
    by_cases d : p = 7936
    · rw [if_pos d, if_pos d]
    · rw [if_neg d, if_neg d]
      unfold impl_isMark.f impl_Category.f impl_kind.f
      simp only [Option.bind_some]
      by_cases g : (impl_kind.g p).1 = 3
      · rw [if_pos (by simpa using g), if_pos g]
      · rw [if_neg (by simpa using g), if_neg g]
theorem Jo.kind_eq (p : Int) : YtnonijganceneaaDoorCas.kind p = impl_kind.g p := rfl
theorem Jo.spec (p : Int) (h : 0 ≤ p) : spec_JoinsTo.f p = some (Jo.jt p) := by
  unfold spec_JoinsTo.f spec_l01Cat.f W_spec_l01Known.f
  simp only [Option.bind_some]
  rw [Jo.kind_eq]
  unfold Jo.jt
  by_cases c : 1280 ≤ p ∧ p ≤ 1311
  · have e : Int.tmod p 4 = p % 4 := Int.tmod_eq_emod_of_nonneg h
    have k : (impl_kind.g p).1 = 7 := by
      unfold impl_kind.g
      repeat (first | rw [if_pos (by omega)] | rw [if_neg (by omega)])
    rw [if_neg (by omega), if_neg (by omega), if_pos c]
    unfold spec_l10Letter.f
    rw [if_pos (show p ≥ 1280 from c.1)]
    simp only [Option.bind_some]
    rw [if_pos (decide_eq_true c.2), e, if_pos (by omega), if_pos (by simp only [List.length_cons, List.length_nil]; omega), Jo.tb_rd _ (by omega) (by omega)]
  · rw [if_neg c]
    by_cases d : p = 7936
    · subst d
      rfl
    · rw [if_neg d, if_neg d]
      by_cases g : (impl_kind.g p).1 = 3
      · rw [if_pos g, if_pos g]
      · rw [if_neg g, if_neg g]
        unfold spec_l10Letter.f
        by_cases a : p ≥ 1280
        · rw [if_pos a]
          simp only [Option.bind_some]
          rw [if_neg (by rw [decide_eq_true_eq]; omega)]
        · rw [if_neg a]
          rfl
theorem Jo.rd_set (xs : List Int) (i v : Int) (j : Int) (h0 : 0 ≤ i) (h1 : i < (xs.length : Int)) (hj : 0 ≤ j) : rd (xs.set i.toNat v) j = if i = j then v else rd xs j := by
  unfold rd
  by_cases c : i = j
  · subst c
    rw [if_pos rfl]
    simp [List.getD, List.getElem?_set_self (show i.toNat < xs.length by omega)]
  · rw [if_neg c]
    simp only [List.getD_eq_getElem?_getD]
    rw [List.getElem?_set_ne (by omega)]
/-- what holds ahead of place i -/
structure Jo.J (l out : List Int) (last : Int) (i : Nat) : Prop where
  len : out.length = l.length
  zero : ∀ j : Int, (i : Int) ≤ j → rd out j = 0
  lo : -1 ≤ last
  hi : last < (i : Int)
  lst : 0 ≤ last → 0 ≤ Jo.jt (rd l last) ∧ (rd out last = 0 ∨ rd out last = 3)
  gap : ∀ j : Int, last < j → j < (i : Int) → 0 ≤ j → Jo.jt (rd l j) < 0
  prop : ∀ j : Int, 0 ≤ j → j < (i : Int) → (rd out j = 1 ∨ rd out j = 2) → ∃ k : Int, j < k ∧ k < (i : Int) ∧ (∀ m : Int, j < m → m < k → Jo.jt (rd l m) < 0) ∧ 0 ≤ Jo.jt (rd l k) ∧ (rd out k = 2 ∨ rd out k = 3 ∨ rd l k = 7936)
theorem Jo.J.skip {l out : List Int} {last : Int} {i : Nat} (h : Jo.J l out last i) (hn : Jo.jt (rd l (i : Int)) < 0) : Jo.J l out last (i + 1) := by
  refine ⟨h.len, fun j hj => h.zero j (by omega), h.lo, by have := h.hi; omega, h.lst, fun j h1 h2 h3 => ?_, fun j h0 h1 h2 => ?_⟩
  · by_cases c : j = (i : Int)
    · rw [c]; exact hn
    · exact h.gap j h1 (by omega) h3
  · by_cases c : j = (i : Int)
    · have := h.zero j (by omega); omega
    · obtain ⟨k, a1, a2, a3⟩ := h.prop j h0 (by omega) h2
      exact ⟨k, a1, by omega, a3⟩
theorem Jo.J.pass {l out : List Int} {last : Int} {i : Nat} (h : Jo.J l out last i) (hn : 0 ≤ Jo.jt (rd l (i : Int))) : Jo.J l out (i : Int) (i + 1) := by
  refine ⟨h.len, fun j hj => h.zero j (by omega), by omega, by omega, fun _ => ⟨hn, .inl (h.zero _ (by omega))⟩, fun j h1 h2 _ => by omega, fun j h0 h1 h2 => ?_⟩
  by_cases c : j = (i : Int)
  · have := h.zero j (by omega); omega
  · obtain ⟨k, a1, a2, a3⟩ := h.prop j h0 (by omega) h2
    exact ⟨k, a1, by omega, a3⟩
theorem Jo.lt_iff (p : Int) : impl_formsOf.lt p = true ↔ 1280 ≤ p ∧ p ≤ 1311 := by
  unfold impl_formsOf.lt; simp
theorem Jo.first_rd {l out : List Int} {last : Int} (h0 : 0 ≤ last) (h1 : last < (out.length : Int)) (j : Int) (hj : 0 ≤ j) :
    rd (impl_formsOf.first l out last) j = if 1280 ≤ rd l last ∧ rd l last ≤ 1311 then (if last = j then (if rd out last = 3 then 2 else 1) else rd out j) else rd out j := by
  unfold impl_formsOf.first
  by_cases c : 1280 ≤ rd l last ∧ rd l last ≤ 1311
  · rw [if_pos ((Jo.lt_iff _).2 c), if_pos c]
    by_cases d : rd out last = 3
    · rw [if_pos d, if_pos d, Jo.rd_set _ _ _ _ h0 h1 hj]
    · rw [if_neg d, if_neg d, Jo.rd_set _ _ _ _ h0 h1 hj]
  · rw [if_neg (fun z => c ((Jo.lt_iff _).1 z)), if_neg c]
theorem Jo.join_rd {l out : List Int} {last i : Int} (h0 : 0 ≤ last) (h1 : last < (out.length : Int)) (i0 : 0 ≤ i) (i1 : i < (out.length : Int)) (j : Int) (hj : 0 ≤ j) :
    rd (impl_formsOf.join l out last i) j = if (1280 ≤ rd l i ∧ rd l i ≤ 1311) ∧ i = j then 3 else rd (impl_formsOf.first l out last) j := by
  unfold impl_formsOf.join
  by_cases c : 1280 ≤ rd l i ∧ rd l i ≤ 1311
  · rw [if_pos ((Jo.lt_iff _).2 c), Jo.rd_set _ _ _ _ i0 (by rw [impl_formsOf.first_len]; exact i1) hj]
    by_cases d : i = j
    · rw [if_pos d, if_pos ⟨c, d⟩]
    · rw [if_neg d, if_neg (fun z => d z.2)]
  · rw [if_neg (fun z => c ((Jo.lt_iff _).1 z)), if_neg (fun z => c z.1)]
theorem Jo.tb_small (m : Int) : Jo.tb m ≤ 3 := by unfold Jo.tb; repeat' split
                                                  all_goals omega
theorem Jo.two {p : Int} (h : 2 ≤ Jo.jt p) (hn : ¬ (1280 ≤ p ∧ p ≤ 1311)) : p = 7936 := by
  unfold Jo.jt at h
  rw [if_neg hn] at h
  by_cases c : p = 7936
  · exact c
  · rw [if_neg c] at h
    split at h <;> omega
theorem Jo.J.joins {l out : List Int} {last : Int} {i : Nat} (h : Jo.J l out last i) (hl : 0 ≤ last) (hi : i < l.length) (hn : 2 ≤ Jo.jt (rd l (i : Int))) : Jo.J l (impl_formsOf.join l out last (i : Int)) (i : Int) (i + 1) := by
  have hlt := h.hi
  have hlen := h.len
  have J := fun (j : Int) (hj : 0 ≤ j) => Jo.join_rd (l := l) (out := out) (last := last) (i := (i : Int)) hl (by omega) (by omega) (by omega) j hj
  have F := fun (j : Int) (hj : 0 ≤ j) => Jo.first_rd (l := l) (out := out) (last := last) hl (by omega) j hj
  have old : ∀ j : Int, 0 ≤ j → j ≠ last → j ≠ (i : Int) → rd (impl_formsOf.join l out last (i : Int)) j = rd out j := by
    intro j h0 h1 h2
    rw [J j h0, if_neg (fun z => h2 z.2.symm), F j h0]
    split
    · rw [if_neg (fun z => h1 z.symm)]
    · rfl
  have ati : rd (impl_formsOf.join l out last (i : Int)) (i : Int) = if 1280 ≤ rd l (i : Int) ∧ rd l (i : Int) ≤ 1311 then 3 else 0 := by
    rw [J _ (by omega), F _ (by omega), if_neg (show ¬ last = (i : Int) by omega), h.zero _ (Int.le_refl _), ite_self]
    by_cases c : 1280 ≤ rd l (i : Int) ∧ rd l (i : Int) ≤ 1311
    · rw [if_pos ⟨c, rfl⟩, if_pos c]
    · rw [if_neg (fun z => c z.1), if_neg c]
  have atl : rd (impl_formsOf.join l out last (i : Int)) last = if 1280 ≤ rd l last ∧ rd l last ≤ 1311 then (if rd out last = 3 then 2 else 1) else rd out last := by
    rw [J _ hl, if_neg (fun z => by omega), F _ hl, if_pos rfl]
  have hlst := (h.lst hl).2
  have hi2 : rd (impl_formsOf.join l out last (i : Int)) (i : Int) = 2 ∨ rd (impl_formsOf.join l out last (i : Int)) (i : Int) = 3 ∨ rd l (i : Int) = 7936 := by
    rw [ati]
    by_cases c : 1280 ≤ rd l (i : Int) ∧ rd l (i : Int) ≤ 1311
    · rw [if_pos c]; exact .inr (.inl rfl)
    · exact .inr (.inr (Jo.two hn c))
  refine ⟨by rw [impl_formsOf.join_len]; exact hlen, fun j hj => ?_, by omega, by omega, fun _ => ⟨by omega, ?_⟩, fun j h1 h2 _ => by omega, fun j h0 h1 h2 => ?_⟩
  · rw [old j (by omega) (by omega) (by omega)]; exact h.zero j (by omega)
  · rw [ati]; split
    · exact .inr rfl
    · exact .inl rfl
  · by_cases c1 : j = (i : Int)
    · exfalso
      rw [c1, ati] at h2
      split at h2 <;> omega
    · by_cases c2 : j = last
      · exact ⟨(i : Int), by omega, by omega, fun m m1 m2 => h.gap m (by omega) m2 (by omega), by omega, hi2⟩
      · rw [old j h0 c2 c1] at h2
        obtain ⟨k, a1, a2, a3, a4, a5⟩ := h.prop j h0 (by omega) h2
        refine ⟨k, a1, by omega, a3, a4, ?_⟩
        by_cases c3 : k = last
        · subst c3
          rw [atl]
          by_cases c4 : rd out k = 3
          · rw [if_pos c4, c4]
            split
            · exact .inl rfl
            · exact .inr (.inl rfl)
          · rcases a5 with a5 | a5 | a5
            · omega
            · exact absurd a5 c4
            · exact .inr (.inr a5)
        · rw [old k (by omega) c3 (by omega)]
          exact a5
theorem Jo.same_join (l out : List Int) (i j : Int) : spec_l10Forms.join l out i j = impl_formsOf.join l out i j := rfl
/-- the loop of both -/
theorem Jo.run (l : List Int) (hl : l.length ≤ 1000000) (hp : ∀ p ∈ l, 0 ≤ p) (d : Nat) : ∀ (i : Nat) (out : List Int) (last : Int), i ≤ l.length → l.length - i = d → Jo.J l out last i →
    ∃ r last', impl_formsOf.run l d out last i = some r ∧ spec_l10Forms.run l d out last i = some r ∧ Jo.J l r last' l.length := by
  have hr : ∀ j : Int, 0 ≤ j → j < (l.length : Int) → 0 ≤ rd l j := by
    intro j h0 h1
    unfold rd
    rw [List.getD_eq_getElem?_getD, List.getElem?_eq_getElem (show j.toNat < l.length by omega)]
    exact hp _ (List.getElem_mem _)
  induction d with
  | zero =>
    intro i out last h1 h2 hJ
    obtain rfl : i = l.length := by omega
    exact ⟨out, last, rfl, rfl, hJ⟩
  | succ d ih =>
    intro i out last h1 h2 hJ
    have hlt : i < l.length := by omega
    have hhi := hJ.hi
    rw [impl_formsOf.run, spec_l10Forms.run, Jo.impl _ (hr _ (by omega) (by omega)), Jo.spec _ (hr _ (by omega) (by omega))]
    simp only [Option.bind_some]
    by_cases c : Jo.jt (rd l (i : Int)) < 0
    · rw [if_pos c, if_pos c]
      exact ih (i + 1) out last (by omega) (by omega) (hJ.skip c)
    · rw [if_neg c, if_neg c]
      by_cases c2 : 0 ≤ last
      · rw [if_pos c2, if_pos c2, Jo.impl _ (hr _ c2 (by omega)), Jo.spec _ (hr _ c2 (by omega))]
        simp only [Option.bind_some]
        by_cases c3 : Jo.jt (rd l last) = 3 ∧ 2 ≤ Jo.jt (rd l (i : Int))
        · rw [decide_eq_true c3.1, decide_eq_true c3.2]
          simp only [Bool.true_and, if_true]
          have hfine : spec_l10Forms.fine l out last = true := (spec_l10Forms.fine_iff l out last).2 (by
            rcases (hJ.lst c2).2 with h | h
            · exact .inr (.inl h)
            · exact .inr (.inr h))
          rw [if_pos hfine, Jo.same_join]
          exact ih (i + 1) _ (i : Int) (by omega) (by omega) (hJ.joins c2 hlt c3.2)
        · have e : (decide (Jo.jt (rd l last) = 3) && decide (2 ≤ Jo.jt (rd l (i : Int)))) = false := by
            rw [Bool.and_eq_false_iff]
            by_cases x : Jo.jt (rd l last) = 3
            · exact .inr (decide_eq_false (fun y => c3 ⟨x, y⟩))
            · exact .inl (decide_eq_false x)
          rw [e]
          simp only [Bool.false_eq_true, if_false]
          exact ih (i + 1) out (i : Int) (by omega) (by omega) (hJ.pass (by omega))
      · rw [if_neg c2, if_neg c2]
        simp only [Option.bind_some, Bool.false_eq_true, if_false]
        exact ih (i + 1) out (i : Int) (by omega) (by omega) (hJ.pass (by omega))
/-- the law's inner loop -/
theorem Jo.inner (l f : List Int) (hl : l.length ≤ 1000000) (hf : f.length = l.length) (hp : ∀ p ∈ l, 0 ≤ p) (i : Nat) (kk : Int) (hk1 : kk < (l.length : Int)) (hk2 : ∀ m : Int, (i : Int) < m → m < kk → Jo.jt (rd l m) < 0) (hk3 : 0 ≤ Jo.jt (rd l kk)) (hk4 : rd f kk = 2 ∨ rd f kk = 3 ∨ rd l kk = 7936) (d : Nat) :
    ∀ (k j : Nat), i < j → (j : Int) ≤ kk → (kk - (j : Int)).toNat = d → d < k → laws_FnJoined.l1 k l f (i : Int) (j : Int) = laws_FnJoined.l0 (k - d - 1) l f (wrap64 ((i : Int) + 1)) := by
  have hr : ∀ j : Int, 0 ≤ j → j < (l.length : Int) → 0 ≤ rd l j := by
    intro j h0 h1
    unfold rd
    rw [List.getD_eq_getElem?_getD, List.getElem?_eq_getElem (show j.toNat < l.length by omega)]
    exact hp _ (List.getElem_mem _)
  induction d with
  | zero =>
    intro k j h1 h2 h3 h4
    obtain ⟨k, rfl⟩ : ∃ m, k = m + 1 := ⟨k - 1, by omega⟩
    obtain rfl : kk = (j : Int) := by omega
    rw [laws_FnJoined.l1, if_pos (by omega), if_pos (by omega), Jo.impl _ (hr _ (by omega) (by omega))]
    simp only [Option.bind_some]
    rw [if_neg (by omega), if_neg (by omega), if_pos (by omega)]
    by_cases a : rd f (j : Int) = 2
    · rw [if_pos a]; rfl
    · rw [if_neg a]
      by_cases b : rd f (j : Int) = 3
      · rw [if_pos b]; rfl
      · rw [if_neg b, if_pos (by omega)]; rfl
  | succ d ih =>
    intro k j h1 h2 h3 h4
    obtain ⟨k, rfl⟩ : ∃ m, k = m + 1 := ⟨k - 1, by omega⟩
    have hw : wrap64 ((j : Int) + 1) = ((j + 1 : Nat) : Int) := by unfold wrap64; omega
    rw [laws_FnJoined.l1, if_pos (by omega), if_pos (by omega), Jo.impl _ (hr _ (by omega) (by omega))]
    simp only [Option.bind_some]
    rw [if_pos (hk2 _ (by omega) (by omega)), hw, ih k (j + 1) (by omega) (by omega) (by omega) (by omega)]
    congr 1
    omega
theorem Jo.outer (l f : List Int) (hl : l.length ≤ 1000000) (hf : f.length = l.length) (hp : ∀ p ∈ l, 0 ≤ p) (last : Int) (hJ : Jo.J l f last l.length) (d : Nat) :
    ∀ (k i : Nat), i ≤ l.length → l.length - i = d → d * (l.length + 3) < k → laws_FnJoined.l0 k l f (i : Int) = some true := by
  induction d with
  | zero =>
    intro k i h1 h2 h3
    obtain ⟨k, rfl⟩ : ∃ m, k = m + 1 := ⟨k - 1, by omega⟩
    rw [laws_FnJoined.l0, if_neg (by omega)]
  | succ d ih =>
    intro k i h1 h2 h3
    rw [Nat.succ_mul] at h3
    obtain ⟨k, rfl⟩ : ∃ m, k = m + 2 := ⟨k - 2, by omega⟩
    have hw : wrap64 ((i : Int) + 1) = ((i + 1 : Nat) : Int) := by unfold wrap64; omega
    rw [laws_FnJoined.l0, if_pos (by omega), if_pos (by omega), if_pos (by omega)]
    have hno : laws_FnJoined.j2 (k + 1) l f (i : Int) true = some true := by
      rw [laws_FnJoined.j2, if_pos rfl, hw]
      exact ih k (i + 1) (by omega) (by omega) (by omega)
    have hyes : (rd f (i : Int) = 1 ∨ rd f (i : Int) = 2) → laws_FnJoined.j2 (k + 1) l f (i : Int) false = some true := by
      intro h
      obtain ⟨kk, a1, a2, a3, a4, a5⟩ := hJ.prop (i : Int) (by omega) (by omega) h
      rw [laws_FnJoined.j2, if_neg (by decide), hw, Jo.inner l f hl hf hp i kk a2 a3 a4 a5 (kk - ((i + 1 : Nat) : Int)).toNat k (i + 1) (by omega) (by omega) rfl (by omega), hw]
      exact ih _ (i + 1) (by omega) (by omega) (by omega)
    by_cases c : rd f (i : Int) = 1
    · rw [if_pos c]
      exact hyes (.inl c)
    · rw [if_neg c]
      by_cases c2 : rd f (i : Int) = 2
      · rw [show (rd f (i : Int) != 2) = false from by simp [c2]]
        exact hyes (.inr c2)
      · rw [show (rd f (i : Int) != 2) = true from by simp [c2]]
        exact hno
theorem FnJoined : laws_FnJoined.Pure := by
  intro l0 hm hl hb
  by_cases c : (l0.length : Int) > 1048576
  · exact ⟨1, by unfold laws_FnJoined.f; rw [if_pos c]⟩
  · obtain ⟨t, ht, hts⟩ := W_spec_DrawFormsOf.has (l := l0) (by omega)
    obtain ⟨p, hp⟩ : ∃ p, YtnonijganceneaaDoorPts.pts (bytesOf t) = p := ⟨_, rfl⟩
    have hpl : p.length ≤ 100000 := by
      have := YtnonijganceneaaDoorPts.pts_length _ (bytesOf t) (Nat.le_refl _)
      rw [hp, bytesOf_length] at this
      omega
    have hpp : ∀ x ∈ p, 0 ≤ x := by
      intro x hx
      rw [← hp] at hx
      exact (YtnonijganceneaaDoorPts.pts_isP _ _ (Nat.le_refl _) x hx).1
    refine ⟨p.length * (p.length + 3) + 2 * p.length + 2, ?_⟩
    unfold laws_FnJoined.f
    rw [if_neg c, ht]
    simp only [Option.bind_some]
    have same : ∀ q : List Int, q.length ≤ 100000 → W_laws_lwSame.f q q = some true := by
      intro q hq
      unfold W_laws_lwSame.f
      rw [if_pos (by omega)]; simp
    by_cases big : (t.size : Int) > 65536
    · unfold spec_PointsOf.f impl_FormsOf.f spec_FormsOf.f impl_long.f
      rw [if_pos big, if_pos big]
      simp only [Option.bind_some]
      rw [if_pos (decide_eq_true big)]
      simp only [Option.bind_some]
      rw [same [] (by simp)]
      simp only [Option.bind_some, if_true]
      simp [laws_FnJoined.j0, laws_FnJoined.l0]
    · have hz : Jo.J p (List.replicate p.length 0) (-1) 0 := by
        refine ⟨by simp, fun j hj => ?_, by omega, by omega, fun h => absurd h (by omega), fun j h1 h2 h3 => by omega, fun j h0 h1 => by omega⟩
        unfold rd
        rw [List.getD_eq_getElem?_getD, List.getElem?_replicate]
        split <;> rfl
      obtain ⟨r, last, e1, e2, hJ⟩ := Jo.run p (by omega) hpp p.length 0 (List.replicate p.length 0) (-1) (by omega) (by omega) hz
      unfold spec_PointsOf.f impl_FormsOf.f spec_FormsOf.f impl_long.f W_spec_l01Points.f W_impl_points.f
      rw [if_neg big, if_neg big, if_pos (by omega), hp]
      simp only [Option.bind_some]
      rw [if_neg (by simpa using big)]
      unfold impl_formsOf.f spec_l10Forms.f
      rw [if_pos (by omega), e1, if_pos (by omega)]
      rw [e2]
      simp only [Option.bind_some]
      rw [same r (by rw [hJ.len]; omega)]
      simp only [Option.bind_some, if_true]
      rw [laws_FnJoined.j0, if_neg (by rw [hJ.len]; simp)]
      exact Jo.outer p r (by omega) hJ.len hpp last hJ p.length _ 0 (by omega) (by omega) (by omega)

end Go.Proofs.YtnonijganceneaaDoor.Pure
