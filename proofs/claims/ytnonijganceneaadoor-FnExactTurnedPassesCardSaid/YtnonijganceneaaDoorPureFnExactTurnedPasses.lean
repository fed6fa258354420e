/- The law FnExactTurnedPasses in plain Lean: the reference and the program turn the same passes alike, at every row; the answer's rows are its own. -/
import Derived.Test.YtnonijganceneaaDoorQFnExactTurnedPassesx12
import Derived.Test.YtnonijganceneaaDoorVFnExactTurnedPassesVal
set_option linter.unusedVariables false
set_option linter.unusedSimpArgs false
namespace Go.Proofs.YtnonijganceneaaDoor.Pure
open Go.RowKit Go.Proofs.YtnonijganceneaaDoor.QFnExactTurnedPasses Go.Proofs.YtnonijganceneaaDoorW.PrintWords Go.Proofs.YtnonijganceneaaDoorW.PrintLast

def Pass.ptsOf (s : ByteArray) : List Int := YtnonijganceneaaDoorPts.pts (bytesOf s)
def Pass.one (s : ByteArray) : Bool := decide ((Pass.ptsOf s).length ≤ 20) && decide (YtnonijganceneaaDoorPts.encs (Pass.ptsOf s) = bytesOf s)
def Pass.ruleOk (r : S176) : Bool := Pass.one r.f0 && (Pass.one r.f1 && (Pass.one r.f2 && (Pass.one r.f3 && (decide (r.f1.size ≠ 0) && decide (0 ≤ r.f4 ∧ r.f4 ≤ ((Pass.ptsOf r.f3).length : Int))))))
def Pass.ok (p : S123) : Bool := decide (0 ≤ p.f1 ∧ p.f1 ≤ 4) && p.f0.all Pass.ruleOk
def Pass.small (r : S176) : Prop := r.f0.size ≤ 1048576 ∧ r.f1.size ≤ 1048576 ∧ r.f2.size ≤ 1048576 ∧ r.f3.size ≤ 1048576
def Pass.few (L : List S123) : Prop := L.length ≤ 1048576 ∧ ∀ p ∈ L, p.f0.length ≤ 1048576 ∧ ∀ r ∈ p.f0, Pass.small r
def Pass.total : List S123 → Nat
  | [] => 0
  | p :: t => p.f0.length + Pass.total t
def Pass.need : List S123 → Nat
  | [] => 1
  | p :: t => 6 * p.f0.length + 6 + Pass.need t
def Pass.cum : List S123 → Int → Bool
  | [], _ => true
  | p :: t, a => Pass.ok p && (decide (a + (p.f0.length : Int) ≤ 100) && Pass.cum t (a + (p.f0.length : Int)))
theorem Pass.cum_eq : ∀ (L : List S123) (a : Int), a ≤ 100 → Pass.cum L a = (L.all Pass.ok && decide (a + (Pass.total L : Int) ≤ 100))
  | [], a, h => by
    unfold Pass.cum Pass.total
    rw [decide_eq_true (by omega)]; rfl
  | p :: t, a, h => by
    unfold Pass.cum Pass.total
    rw [List.all_cons]
    by_cases c : a + (p.f0.length : Int) ≤ 100
    · rw [Pass.cum_eq t _ c, decide_eq_true c, Bool.true_and, Bool.and_assoc]
      have : decide (a + (p.f0.length : Int) + (Pass.total t : Int) ≤ 100) = decide (a + ((p.f0.length + Pass.total t : Nat) : Int) ≤ 100) := decide_eq_decide.2 ⟨fun z => by omega, fun z => by omega⟩
      rw [this]
    · rw [decide_eq_false c, Bool.false_and, Bool.and_false, decide_eq_false (show ¬ a + ((p.f0.length + Pass.total t : Nat) : Int) ≤ 100 by omega), Bool.and_false]
theorem Pass.pts_len (s : ByteArray) : (Pass.ptsOf s).length ≤ s.size := by
  have := YtnonijganceneaaDoorPts.pts_length _ (bytesOf s) (Nat.le_refl _)
  rw [bytesOf_length] at this
  exact this
theorem Pass.pts_none (s : ByteArray) : (Pass.ptsOf s).length = 0 ↔ s.size = 0 := by
  constructor
  · intro h
    rcases Nat.eq_zero_or_pos s.size with z | z
    · exact z
    · have hne : bytesOf s ≠ [] := fun y => by
        have := bytesOf_length s
        rw [y] at this
        simp at this
        omega
      unfold Pass.ptsOf at h
      rw [YtnonijganceneaaDoorPts.pts_cons hne] at h
      simp at h
  · intro h
    have := Pass.pts_len s
    omega
theorem Pass.toList_eq (a b : ByteArray) : (a.toList == b.toList) = decide (bytesOf a = bytesOf b) := by
  by_cases c : bytesOf a = bytesOf b
  · rw [YtnonijganceneaaDoorPts.bytesOf_inj c, decide_eq_true rfl]
    exact beq_self_eq_true _
  · rw [decide_eq_false c]
    apply beq_eq_false_iff_ne.2
    intro e
    apply c
    rw [ByteArray.toList_eq, ByteArray.toList_eq] at e
    rw [ByteArray.ext (Array.ext' e)]
theorem Pass.right (s : ByteArray) (m : Int) (h : s.size ≤ 1048576) : spec_l13Right.f s m = some (decide (m ≤ ((Pass.ptsOf s).length : Int)) && Pass.one s) := by
  have hp := Pass.pts_len s
  unfold spec_l13Right.f W_spec_l01Points.f
  rw [if_pos (by omega)]
  show (if ((Pass.ptsOf s).length : Int) ≥ m then _ else _) = _
  by_cases a : ((Pass.ptsOf s).length : Int) ≥ m
  · rw [if_pos a, decide_eq_true (show m ≤ ((Pass.ptsOf s).length : Int) from a), Bool.true_and]
    unfold Pass.one
    by_cases b : ((Pass.ptsOf s).length : Int) ≤ 20
    · rw [if_pos (show (((YtnonijganceneaaDoorPts.pts (bytesOf s)).length : Int)) ≤ 20 from b), decide_eq_true (show (Pass.ptsOf s).length ≤ 20 by omega), Bool.true_and]
      unfold W_spec_l01Text.f
      rw [if_pos (show (YtnonijganceneaaDoorPts.pts (bytesOf s)).length ≤ 1099511627776 by have : (YtnonijganceneaaDoorPts.pts (bytesOf s)).length ≤ s.size := hp; omega)]
      show some ((strOfNums (YtnonijganceneaaDoorPts.encs (Pass.ptsOf s))).toList == s.toList) = _
      rw [Pass.toList_eq, YtnonijganceneaaDoorPts.bytesOf_strOfNums (YtnonijganceneaaDoorPts.encs_bytes _)]
    · rw [if_neg (show ¬ (((YtnonijganceneaaDoorPts.pts (bytesOf s)).length : Int)) ≤ 20 from b), decide_eq_false (show ¬ (Pass.ptsOf s).length ≤ 20 by omega), Bool.false_and]
  · rw [if_neg a, decide_eq_false (show ¬ m ≤ ((Pass.ptsOf s).length : Int) from a), Bool.false_and]
theorem Pass.well (s : ByteArray) (h : s.size ≤ 1048576) : impl_well.f s = some (decide (YtnonijganceneaaDoorPts.encs (Pass.ptsOf s) = bytesOf s)) := by
  unfold impl_well.f utf8_ValidString.f
  rw [if_pos (by omega)]
  show some (Lib.validD s.data.toList) = _
  rw [YtnonijganceneaaDoorVal.well]
  rfl
theorem Pass.points (s : ByteArray) (h : s.size ≤ 1048576) : W_impl_points.f s = some (Pass.ptsOf s) ∧ W_spec_l01Points.f s = some (Pass.ptsOf s) := by
  unfold W_impl_points.f W_spec_l01Points.f
  rw [if_pos (by omega)]
  exact ⟨rfl, rfl⟩
theorem Pass.rdP {L : List S123} {i : Nat} (h : i < L.length) : rd_T123 L (i : Int) = L[i] := by simp [rd_T123, List.getD, h]
theorem Pass.rdR {L : List S176} {i : Nat} (h : i < L.length) : rd_T176 L (i : Int) = L[i] := by simp [rd_T176, List.getD, h]
theorem Pass.wr (i : Nat) (h : i ≤ 1048576) : wrap64 ((i : Int) + 1) = ((i + 1 : Nat) : Int) := by unfold wrap64; omega
theorem Pass.specRules (L : List S123) (hL : Pass.few L) (i : Nat) (hi : i < L.length) (acc : Int) (k : Nat) (d : Nat) : ∀ (j : Nat), j ≤ L[i].f0.length → L[i].f0.length - j = d →
    spec_PassesFault.l1 (k + d + 1) L acc (i : Int) (j : Int) = if (L[i].f0.drop j).all Pass.ruleOk = true then spec_PassesFault.l0 k L acc ((i + 1 : Nat) : Int) else some 1 := by
  have hp := hL.2 L[i] (List.getElem_mem hi)
  induction d with
  | zero =>
    intro j h1 h2
    rw [spec_PassesFault.l1, Pass.rdP hi, if_pos (by omega), if_pos (by omega), if_neg (by omega), List.drop_eq_nil_of_le (by omega), Pass.wr i (by have := hL.1; omega)]
    rfl
  | succ d ih =>
    intro j h1 h2
    have hj : j < L[i].f0.length := by omega
    obtain ⟨r, hr⟩ : ∃ r, L[i].f0[j] = r := ⟨_, rfl⟩
    have hs : Pass.small r := by rw [← hr]; exact hp.2 _ (List.getElem_mem hj)
    rw [show k + (d + 1) + 1 = (k + d + 1) + 1 from rfl, spec_PassesFault.l1, Pass.rdP hi, if_pos (by omega), if_pos (by omega), if_pos (by omega), if_pos (by omega), Pass.rdR hj, hr, List.drop_eq_getElem_cons hj, hr, List.all_cons, Pass.wr j (by have := hp.1; omega), ih (j + 1) (by omega) (by omega)]
    obtain ⟨X, hX⟩ : ∃ X, (if (L[i].f0.drop (j + 1)).all Pass.ruleOk = true then spec_PassesFault.l0 k L acc ((i + 1 : Nat) : Int) else some 1) = X := ⟨_, rfl⟩
    rw [Pass.right _ 0 hs.1, Pass.right _ 1 hs.2.1, Pass.right _ 0 hs.2.2.1, Pass.right _ 0 hs.2.2.2, (Pass.points _ hs.2.2.2).2]
    simp only [Option.bind_some]
    have z : ∀ s : ByteArray, decide ((0 : Int) ≤ ((Pass.ptsOf s).length : Int)) = true := fun s => decide_eq_true (by omega)
    have o : decide ((1 : Int) ≤ ((Pass.ptsOf r.f1).length : Int)) = decide (r.f1.size ≠ 0) := decide_eq_decide.2 ⟨fun y x => by have := (Pass.pts_none r.f1).2 x; omega, fun y => by have := mt (Pass.pts_none r.f1).1 y; omega⟩
    rw [z, z, z, o, Bool.true_and, Bool.true_and, Bool.true_and]
    have e : (if r.f4 < 0 then some (1 : Int) else if r.f4 > ((Pass.ptsOf r.f3).length : Int) then some 1 else X) = if decide (0 ≤ r.f4 ∧ r.f4 ≤ ((Pass.ptsOf r.f3).length : Int)) = true then X else some 1 := by
      by_cases x : r.f4 < 0
      · rw [if_pos x, decide_eq_false (show ¬ (0 ≤ r.f4 ∧ r.f4 ≤ ((Pass.ptsOf r.f3).length : Int)) by omega), if_neg (by decide)]
      · rw [if_neg x]
        by_cases y : r.f4 > ((Pass.ptsOf r.f3).length : Int)
        · rw [if_pos y, decide_eq_false (show ¬ (0 ≤ r.f4 ∧ r.f4 ≤ ((Pass.ptsOf r.f3).length : Int)) by omega), if_neg (by decide)]
        · rw [if_neg y, decide_eq_true (show 0 ≤ r.f4 ∧ r.f4 ≤ ((Pass.ptsOf r.f3).length : Int) by omega), if_pos rfl]
    rw [hX, e]
    have hr2 : Pass.ruleOk r = (Pass.one r.f0 && (Pass.one r.f1 && (Pass.one r.f2 && (Pass.one r.f3 && (decide (r.f1.size ≠ 0) && decide (0 ≤ r.f4 ∧ r.f4 ≤ ((Pass.ptsOf r.f3).length : Int))))))) := rfl
    rw [hr2]
    have hX2 : ∀ c : Bool, (if (c && (L[i].f0.drop (j + 1)).all Pass.ruleOk) = true then spec_PassesFault.l0 k L acc ((i + 1 : Nat) : Int) else some 1) = if c = true then X else some 1 := by
      intro c
      cases c with
      | false => rfl
      | true => rw [Bool.true_and, if_pos rfl, ← hX]
    rw [hX2]
    cases Pass.one r.f0 <;> cases Pass.one r.f1 <;> cases Pass.one r.f2 <;> cases Pass.one r.f3 <;> cases decide (r.f1.size ≠ 0) <;> cases decide (0 ≤ r.f4 ∧ r.f4 ≤ ((Pass.ptsOf r.f3).length : Int)) <;> rfl
theorem Pass.specRun (L : List S123) (hL : Pass.few L) (d : Nat) : ∀ (k i : Nat) (acc : Int), i ≤ L.length → L.length - i = d → Pass.need (L.drop i) ≤ k → 0 ≤ acc → acc ≤ 100 →
    spec_PassesFault.l0 k L acc (i : Int) = some (if Pass.cum (L.drop i) acc = true then 0 else 1) := by
  induction d with
  | zero =>
    intro k i acc h1 h2 h3 h4 h5
    rw [List.drop_eq_nil_of_le (by omega)] at h3 ⊢
    unfold Pass.need at h3
    obtain ⟨k, rfl⟩ : ∃ m, k = m + 1 := ⟨k - 1, by omega⟩
    rw [spec_PassesFault.l0, if_neg (by omega)]
    rfl
  | succ d ih =>
    intro k i acc h1 h2 h3 h4 h5
    have hi : i < L.length := by omega
    have hp := hL.2 L[i] (List.getElem_mem hi)
    rw [List.drop_eq_getElem_cons hi] at h3 ⊢
    unfold Pass.need at h3
    obtain ⟨m, rfl⟩ : ∃ m, k = (m + L[i].f0.length + 1) + 1 + 1 := ⟨k - L[i].f0.length - 3, by omega⟩
    rw [spec_PassesFault.l0, if_pos (by omega), if_pos (by omega), Pass.rdP hi]
    have hj : ∀ b, spec_PassesFault.j1 ((m + L[i].f0.length + 1) + 1) L acc (i : Int) b = some (if (!b && (L[i].f0.all Pass.ruleOk && (decide (acc + (L[i].f0.length : Int) ≤ 100) && Pass.cum (L.drop (i + 1)) (acc + (L[i].f0.length : Int))))) = true then 0 else 1) := by
      intro b
      cases b with
      | true => rw [spec_PassesFault.j1, if_pos rfl]; rfl
      | false =>
        have hw : wrap64 (acc + (L[i].f0.length : Int)) = acc + (L[i].f0.length : Int) := by have := hp.1; unfold wrap64; omega
        rw [spec_PassesFault.j1, if_neg (by decide), if_pos (by omega), if_pos (by omega), Pass.rdP hi, hw]
        by_cases c : acc + (L[i].f0.length : Int) > 100
        · rw [if_pos c, decide_eq_false (show ¬ acc + (L[i].f0.length : Int) ≤ 100 by omega), Bool.false_and, Bool.and_false, Bool.and_false]; rfl
        · have q := Pass.specRules L hL i hi (acc + (L[i].f0.length : Int)) m L[i].f0.length 0 (Nat.zero_le _) rfl
          rw [if_neg c, decide_eq_true (show acc + (L[i].f0.length : Int) ≤ 100 by omega), Bool.true_and]
          rw [show ((0 : Nat) : Int) = 0 from rfl] at q
          rw [q, List.drop_zero]
          cases L[i].f0.all Pass.ruleOk with
          | false => rfl
          | true => rw [if_pos rfl, ih m (i + 1) _ (by omega) (by omega) (by omega) (by omega) (by omega)]; rfl
    have hc : Pass.cum (L[i] :: L.drop (i + 1)) acc = ((decide (0 ≤ L[i].f1 ∧ L[i].f1 ≤ 4) && L[i].f0.all Pass.ruleOk) && (decide (acc + (L[i].f0.length : Int) ≤ 100) && Pass.cum (L.drop (i + 1)) (acc + (L[i].f0.length : Int)))) := rfl
    rw [hj, hj, hc, Bool.and_assoc]
    by_cases n0 : L[i].f1 < 0
    · rw [if_pos n0, decide_eq_false (show ¬ (0 ≤ L[i].f1 ∧ L[i].f1 ≤ 4) by omega)]; rfl
    · rw [if_neg n0]
      by_cases n1 : L[i].f1 > 4
      · rw [decide_eq_true n1, decide_eq_false (show ¬ (0 ≤ L[i].f1 ∧ L[i].f1 ≤ 4) by omega)]; rfl
      · rw [decide_eq_false n1, decide_eq_true (show 0 ≤ L[i].f1 ∧ L[i].f1 ≤ 4 by omega), Bool.true_and, Bool.not_false, Bool.true_and]
theorem Pass.implRule (L : List S123) (x18 : Int) (i j : Int) (R : List S176) (n : Int) (r : S176) (hs : Pass.small r) (m : Nat) (hj : wrap64 (j + 1) = j + 1) :
    impl_PassesFault.l2 (m + 5) L x18 i R n j [r.f0, r.f1, r.f2, r.f3] 4 0 r.f0 r.f1 r.f2 r.f3 r.f4 = if Pass.ruleOk r = true then impl_PassesFault.l1 m L x18 i R n (j + 1) else some 1 := by
  have step : ∀ (q : Nat) (e : Nat) (s : ByteArray), e < 4 → rdOf ByteArray.empty [r.f0, r.f1, r.f2, r.f3] (e : Int) = s → s.size ≤ 1048576 →
      impl_PassesFault.l2 (q + 1) L x18 i R n j [r.f0, r.f1, r.f2, r.f3] 4 (e : Int) r.f0 r.f1 r.f2 r.f3 r.f4 = if Pass.one s = true then impl_PassesFault.l2 q L x18 i R n j [r.f0, r.f1, r.f2, r.f3] 4 ((e + 1 : Nat) : Int) r.f0 r.f1 r.f2 r.f3 r.f4 else some 1 := by
    intro q e s he hr hz
    have hp := Pass.pts_len s
    rw [impl_PassesFault.l2, if_pos (by omega), if_pos (by omega), if_pos (show (e : Int) < (([r.f0, r.f1, r.f2, r.f3] : List ByteArray).length : Int) by simp only [List.length_cons, List.length_nil]; omega), hr, Pass.well s hz, (Pass.points s hz).1, Pass.wr e (by omega)]
    simp only [Option.bind_some]
    unfold Pass.one
    by_cases a : (YtnonijganceneaaDoorPts.encs (Pass.ptsOf s) = bytesOf s)
    · rw [decide_eq_true a, if_pos rfl, Bool.and_true]
      by_cases b : (Pass.ptsOf s).length ≤ 20
      · rw [if_neg (by omega), decide_eq_true b, if_pos rfl]
      · rw [if_pos (by omega), decide_eq_false b, if_neg (by decide)]
    · rw [decide_eq_false a, if_neg (by decide), Bool.and_false, if_neg (by decide)]
  have s0 := step (m + 4) 0 r.f0 (by omega) rfl hs.1
  have s1 := step (m + 3) 1 r.f1 (by omega) rfl hs.2.1
  have s2 := step (m + 2) 2 r.f2 (by omega) rfl hs.2.2.1
  have s3 := step (m + 1) 3 r.f3 (by omega) rfl hs.2.2.2
  rw [show m + 5 = m + 4 + 1 from rfl, show (0 : Int) = ((0 : Nat) : Int) from rfl, s0, s1, s2, s3]
  have s4 : impl_PassesFault.l2 (m + 1) L x18 i R n j [r.f0, r.f1, r.f2, r.f3] 4 ((3 + 1 : Nat) : Int) r.f0 r.f1 r.f2 r.f3 r.f4 = if (decide (r.f1.size ≠ 0) && decide (0 ≤ r.f4 ∧ r.f4 ≤ ((Pass.ptsOf r.f3).length : Int))) = true then impl_PassesFault.l1 m L x18 i R n (j + 1) else some 1 := by
    rw [impl_PassesFault.l2, if_neg (by omega), (Pass.points _ hs.2.2.2).1, hj]
    simp only [Option.bind_some]
    have hn : (r.f1.toList = ([] : List UInt8)) ↔ r.f1.size = 0 := by
      rw [ByteArray.toList_eq, ← data_length]
      exact List.length_eq_zero_iff.symm
    by_cases a : r.f1.size = 0
    · rw [if_pos (hn.2 a), decide_eq_false (fun y => y a), Bool.false_and, if_neg (by decide)]
    · rw [if_neg (fun y => a (hn.1 y)), decide_eq_true a, Bool.true_and]
      by_cases b : r.f4 < 0
      · rw [if_pos b, decide_eq_false (show ¬ (0 ≤ r.f4 ∧ r.f4 ≤ ((Pass.ptsOf r.f3).length : Int)) by omega), if_neg (by decide)]
      · rw [if_neg b]
        by_cases c : r.f4 > ((Pass.ptsOf r.f3).length : Int)
        · rw [if_pos c, decide_eq_false (show ¬ (0 ≤ r.f4 ∧ r.f4 ≤ ((Pass.ptsOf r.f3).length : Int)) by omega), if_neg (by decide)]
        · rw [if_neg c, decide_eq_true (show 0 ≤ r.f4 ∧ r.f4 ≤ ((Pass.ptsOf r.f3).length : Int) by omega), if_pos rfl]
  rw [s4]
  unfold Pass.ruleOk
  cases Pass.one r.f0 <;> cases Pass.one r.f1 <;> cases Pass.one r.f2 <;> cases Pass.one r.f3 <;> simp
theorem Pass.implRules (L : List S123) (hL : Pass.few L) (x18 : Int) (i : Nat) (hi : i < L.length) (k : Nat) (d : Nat) : ∀ (j : Nat), j ≤ L[i].f0.length → L[i].f0.length - j = d →
    impl_PassesFault.l1 (k + 6 * d + 1) L x18 (i : Int) L[i].f0 (L[i].f0.length : Int) (j : Int) = if (L[i].f0.drop j).all Pass.ruleOk = true then impl_PassesFault.l0 k L x18 ((i + 1 : Nat) : Int) else some 1 := by
  have hp := hL.2 L[i] (List.getElem_mem hi)
  induction d with
  | zero =>
    intro j h1 h2
    rw [impl_PassesFault.l1, if_neg (by omega), List.drop_eq_nil_of_le (by omega), Pass.wr i (by have := hL.1; omega)]
    rfl
  | succ d ih =>
    intro j h1 h2
    have hj : j < L[i].f0.length := by omega
    have hs : Pass.small L[i].f0[j] := hp.2 _ (List.getElem_mem hj)
    have hw := Pass.wr j (by have := hp.1; omega)
    rw [show k + 6 * (d + 1) + 1 = (k + 6 * d + 1 + 5) + 1 by omega, impl_PassesFault.l1, if_pos (by omega), if_pos (by omega), if_pos (by omega), Pass.rdR hj]
    have q := Pass.implRule L x18 (i : Int) (j : Int) L[i].f0 (L[i].f0.length : Int) L[i].f0[j] hs (k + 6 * d + 1) (by rw [hw]; omega)
    refine Eq.trans (show _ = impl_PassesFault.l2 (k + 6 * d + 1 + 5) L x18 (i : Int) L[i].f0 (L[i].f0.length : Int) (j : Int) [L[i].f0[j].f0, L[i].f0[j].f1, L[i].f0[j].f2, L[i].f0[j].f3] 4 0 L[i].f0[j].f0 L[i].f0[j].f1 L[i].f0[j].f2 L[i].f0[j].f3 L[i].f0[j].f4 from rfl) (q.trans ?_)
    rw [List.drop_eq_getElem_cons hj, List.all_cons]
    cases Pass.ruleOk L[i].f0[j] with
    | false => rfl
    | true =>
      rw [if_pos rfl, Bool.true_and]
      exact ih (j + 1) (by omega) (by omega)
theorem Pass.implRun (L : List S123) (hL : Pass.few L) (d : Nat) : ∀ (k i : Nat), i ≤ L.length → L.length - i = d → Pass.need (L.drop i) ≤ k →
    impl_PassesFault.l0 k L (L.length : Int) (i : Int) = some (if (L.drop i).all Pass.ok = true then 0 else 1) := by
  induction d with
  | zero =>
    intro k i h1 h2 h3
    rw [List.drop_eq_nil_of_le (by omega)] at h3 ⊢
    unfold Pass.need at h3
    obtain ⟨k, rfl⟩ : ∃ m, k = m + 1 := ⟨k - 1, by omega⟩
    rw [impl_PassesFault.l0, if_neg (by omega)]
    rfl
  | succ d ih =>
    intro k i h1 h2 h3
    have hi : i < L.length := by omega
    rw [List.drop_eq_getElem_cons hi] at h3 ⊢
    unfold Pass.need at h3
    obtain ⟨m, rfl⟩ : ∃ m, k = (m + 6 * L[i].f0.length + 1) + 1 + 1 := ⟨k - 6 * L[i].f0.length - 3, by omega⟩
    rw [impl_PassesFault.l0, if_pos (by omega), if_pos (by omega), if_pos (by omega), Pass.rdP hi, List.all_cons]
    have hj : ∀ b, impl_PassesFault.j2 ((m + 6 * L[i].f0.length + 1) + 1) L (L.length : Int) (i : Int) b L[i].f0 L[i].f1 = some (if (!b && (L[i].f0.all Pass.ruleOk && (L.drop (i + 1)).all Pass.ok)) = true then 0 else 1) := by
      intro b
      cases b with
      | true => rw [impl_PassesFault.j2, if_pos rfl]; rfl
      | false =>
        have q := Pass.implRules L hL (L.length : Int) i hi m L[i].f0.length 0 (Nat.zero_le _) rfl
        rw [show ((0 : Nat) : Int) = 0 from rfl, List.drop_zero] at q
        rw [impl_PassesFault.j2, if_neg (by decide), q]
        cases L[i].f0.all Pass.ruleOk with
        | false => rfl
        | true => rw [if_pos rfl, ih m (i + 1) (by omega) (by omega) (by omega)]; rfl
    have hc : Pass.ok L[i] = (decide (0 ≤ L[i].f1 ∧ L[i].f1 ≤ 4) && L[i].f0.all Pass.ruleOk) := rfl
    rw [hj, hj, hc, Bool.and_assoc]
    by_cases n0 : L[i].f1 < 0
    · rw [if_pos n0, decide_eq_false (show ¬ (0 ≤ L[i].f1 ∧ L[i].f1 ≤ 4) by omega)]; rfl
    · rw [if_neg n0]
      by_cases n1 : L[i].f1 > 4
      · rw [decide_eq_true n1, decide_eq_false (show ¬ (0 ≤ L[i].f1 ∧ L[i].f1 ≤ 4) by omega)]; rfl
      · rw [decide_eq_false n1, decide_eq_true (show 0 ≤ L[i].f1 ∧ L[i].f1 ≤ 4 by omega), Bool.true_and, Bool.not_false, Bool.true_and]
theorem Pass.rules (L : List S123) (hL : Pass.few L) (d : Nat) : ∀ (k i : Nat) (acc : Int), i ≤ L.length → L.length - i = d → d < k → 0 ≤ acc → acc ≤ (i : Int) * 1048576 →
    impl_rulesOf.l0 k acc L (L.length : Int) (i : Int) = some (acc + (Pass.total (L.drop i) : Int)) := by
  induction d with
  | zero =>
    intro k i acc h1 h2 h3 h4 h5
    obtain ⟨k, rfl⟩ : ∃ m, k = m + 1 := ⟨k - 1, by omega⟩
    rw [impl_rulesOf.l0, if_neg (by omega), List.drop_eq_nil_of_le (by omega)]
    show some acc = some (acc + ((0 : Nat) : Int))
    congr 1; omega
  | succ d ih =>
    intro k i acc h1 h2 h3 h4 h5
    obtain ⟨k, rfl⟩ : ∃ m, k = m + 1 := ⟨k - 1, by omega⟩
    have hi : i < L.length := by omega
    have hp := (hL.2 L[i] (List.getElem_mem hi)).1
    have hl := hL.1
    have hw : wrap64 (acc + (L[i].f0.length : Int)) = acc + (L[i].f0.length : Int) := by unfold wrap64; omega
    rw [impl_rulesOf.l0, if_pos (by omega), if_pos (by omega), if_pos (by omega), Pass.rdP hi, hw, Pass.wr i (by omega), ih k (i + 1) _ (by omega) (by omega) (by omega) (by omega) (by omega), List.drop_eq_getElem_cons hi]
    show some (acc + (L[i].f0.length : Int) + (Pass.total (L.drop (i + 1)) : Int)) = some (acc + ((L[i].f0.length + Pass.total (L.drop (i + 1)) : Nat) : Int))
    congr 1; omega
theorem Pass.both (L : List S123) (hL : Pass.few L) (k : Nat) (hk : Pass.need L + L.length + 2 ≤ k) : ∃ r, spec_PassesFault.f k L = some r ∧ impl_PassesFault.f k L = some r := by
  obtain ⟨k, rfl⟩ : ∃ m, k = m + 1 := ⟨k - 1, by omega⟩
  unfold spec_PassesFault.f impl_PassesFault.f
  by_cases c : (L.length : Int) > 10
  · rw [if_pos c, if_pos c, impl_PassesFault.j0, if_pos rfl]; exact ⟨_, rfl, rfl⟩
  · rw [if_neg c, if_neg c]
    have s := Pass.specRun L hL L.length (k + 1) 0 0 (Nat.zero_le _) rfl (by rw [List.drop_zero]; omega) (by omega) (by omega)
    have m := Pass.implRun L hL L.length k 0 (Nat.zero_le _) rfl (by rw [List.drop_zero]; omega)
    have t := Pass.rules L hL L.length (k + 1) 0 0 (Nat.zero_le _) rfl (by omega) (by omega) (by omega)
    rw [show ((0 : Nat) : Int) = 0 from rfl, List.drop_zero] at s m t
    rw [s, Pass.cum_eq L 0 (by omega)]
    unfold impl_rulesOf.f
    rw [t]
    simp only [Option.bind_some]
    refine ⟨_, rfl, ?_⟩
    rw [impl_PassesFault.j0]
    by_cases g : 0 + (Pass.total L : Int) > 100
    · rw [if_pos (decide_eq_true g), decide_eq_false (show ¬ 0 + (Pass.total L : Int) ≤ 100 by omega), Bool.and_false]; rfl
    · rw [if_neg (by simpa using g), m, decide_eq_true (show 0 + (Pass.total L : Int) ≤ 100 by omega), Bool.and_true]
def Pass.cv (x : S208) : S176 := ⟨x.f0, x.f1, x.f2, x.f3, x.f4⟩
def Pass.cvp (p : S117) : S123 := ⟨p.f0.map Pass.cv, p.f1⟩
theorem Pass.rdA {L : List S117} {i : Nat} (h : i < L.length) : rd_T117 L (i : Int) = L[i] := by simp [rd_T117, List.getD, h]
theorem Pass.rdB {L : List S208} {i : Nat} (h : i < L.length) : rd_T208 L (i : Int) = L[i] := by simp [rd_T208, List.getD, h]
def Pass.big (x : S208) : Prop := x.f0.size ≤ 9223372036854775807 ∧ x.f1.size ≤ 9223372036854775807 ∧ x.f2.size ≤ 9223372036854775807 ∧ x.f3.size ≤ 9223372036854775807
theorem Pass.sub (a : Int) (n : Nat) (h0 : 0 ≤ a) (h1 : a ≤ 1048576) (hn : n ≤ 9223372036854775807) : wrap64 (a - (n : Int)) = a - (n : Int) := by unfold wrap64; omega
theorem Pass.szRule (x : S208) (hx : Pass.big x) (a : Int) (h0 : 0 ≤ a) (h1 : a ≤ 1048576) : ∃ r, laws_szWriteRule.f x.f0 x.f1 x.f2 x.f3 x.f4 a = some r ∧ r ≤ 1048576 ∧ (0 ≤ r → Pass.small (Pass.cv x)) := by
  unfold laws_szWriteRule.f
  rw [Pass.sub a _ h0 h1 hx.1]
  by_cases c0 : a - (x.f0.size : Int) < 0
  · rw [if_pos c0]; exact ⟨-1, rfl, by omega, fun z => absurd z (by omega)⟩
  · rw [if_neg c0, Pass.sub _ _ (by omega) (by omega) hx.2.1]
    by_cases c1 : a - (x.f0.size : Int) - (x.f1.size : Int) < 0
    · rw [if_pos c1]; exact ⟨-1, rfl, by omega, fun z => absurd z (by omega)⟩
    · rw [if_neg c1, Pass.sub _ _ (by omega) (by omega) hx.2.2.1]
      by_cases c2 : a - (x.f0.size : Int) - (x.f1.size : Int) - (x.f2.size : Int) < 0
      · rw [if_pos c2]; exact ⟨-1, rfl, by omega, fun z => absurd z (by omega)⟩
      · rw [if_neg c2, Pass.sub _ _ (by omega) (by omega) hx.2.2.2]
        by_cases c3 : a - (x.f0.size : Int) - (x.f1.size : Int) - (x.f2.size : Int) - (x.f3.size : Int) < 0
        · rw [if_pos c3]; exact ⟨-1, rfl, by omega, fun z => absurd z (by omega)⟩
        · rw [if_neg c3]
          refine ⟨_, rfl, by omega, fun _ => ⟨?_, ?_, ?_, ?_⟩⟩
          · show x.f0.size ≤ 1048576; omega
          · show x.f1.size ≤ 1048576; omega
          · show x.f2.size ≤ 1048576; omega
          · show x.f3.size ≤ 1048576; omega
theorem Pass.szRules (R : List S208) (hR : ∀ x ∈ R, Pass.big x) (hl : R.length ≤ 1048576) (d : Nat) : ∀ (k i : Nat) (a : Int), i ≤ R.length → R.length - i = d → d < k → 0 ≤ a → a ≤ 1048576 →
    ∃ r, laws_szWriteRuleS.l0 k R a (i : Int) = some r ∧ r ≤ 1048576 ∧ (0 ≤ r → ∀ x ∈ R.drop i, Pass.small (Pass.cv x)) := by
  induction d with
  | zero =>
    intro k i a h1 h2 h3 h4 h5
    obtain ⟨k, rfl⟩ : ∃ m, k = m + 1 := ⟨k - 1, by omega⟩
    rw [laws_szWriteRuleS.l0, if_neg (by omega), List.drop_eq_nil_of_le (by omega)]
    exact ⟨a, rfl, h5, fun _ x hx => by cases hx⟩
  | succ d ih =>
    intro k i a h1 h2 h3 h4 h5
    obtain ⟨k, rfl⟩ : ∃ m, k = m + 1 := ⟨k - 1, by omega⟩
    have hi : i < R.length := by omega
    obtain ⟨t, e, ht, hs⟩ := Pass.szRule R[i] (hR _ (List.getElem_mem hi)) a h4 h5
    rw [laws_szWriteRuleS.l0, if_pos (by omega), if_pos (by omega), Pass.rdB hi, e, Pass.wr i (by omega)]
    simp only [Option.bind_some]
    by_cases c : t < 0
    · rw [if_pos c]; exact ⟨-1, rfl, by omega, fun z => absurd z (by omega)⟩
    · rw [if_neg c]
      obtain ⟨r, e2, hr, hq⟩ := ih k (i + 1) t (by omega) (by omega) (by omega) (by omega) ht
      refine ⟨r, e2, hr, fun z x hx => ?_⟩
      rw [List.drop_eq_getElem_cons hi] at hx
      rcases List.mem_cons.1 hx with rfl | hx
      · exact hs (by omega)
      · exact hq z x hx
theorem Pass.szPass (R : List S208) (n : Int) (hR : ∀ x ∈ R, Pass.big x) (hl : R.length ≤ 9223372036854775807) (k : Nat) (hk : R.length < k) (a : Int) (h0 : 0 ≤ a) (h1 : a ≤ 1048576) :
    ∃ r, laws_szPass.f k R n a = some r ∧ r ≤ 1048576 ∧ (0 ≤ r → R.length ≤ 1048576 ∧ ∀ x ∈ R, Pass.small (Pass.cv x)) := by
  unfold laws_szPass.f laws_szWriteRuleS.f
  rw [Pass.sub a _ h0 h1 hl]
  by_cases c : a - (R.length : Int) < 0
  · rw [if_pos c]; exact ⟨-1, rfl, by omega, fun z => absurd z (by omega)⟩
  · rw [if_neg c]
    obtain ⟨r, e, hr, hq⟩ := Pass.szRules R hR (by omega) R.length k 0 (a - (R.length : Int)) (Nat.zero_le _) rfl hk (by omega) (by omega)
    rw [show ((0 : Nat) : Int) = 0 from rfl] at e
    rw [e]
    simp only [Option.bind_some]
    by_cases g : r < 0
    · rw [if_pos g]; exact ⟨-1, rfl, by omega, fun z => absurd z (by omega)⟩
    · rw [if_neg g]; exact ⟨r, rfl, hr, fun z => ⟨by omega, fun x hx => hq z x (by rw [List.drop_zero]; exact hx)⟩⟩
def Pass.fit (L : List S117) : Prop := L.length ≤ 9223372036854775807 ∧ ∀ p ∈ L, p.f0.length ≤ 9223372036854775807 ∧ ∀ x ∈ p.f0, Pass.big x
theorem Pass.szRun (L : List S117) (hL : Pass.fit L) (hl : L.length ≤ 1048576) (M : Nat) (hM : ∀ p ∈ L, p.f0.length < M) (d : Nat) : ∀ (k i : Nat) (a : Int), i ≤ L.length → L.length - i = d → d + M < k → 0 ≤ a → a ≤ 1048576 →
    ∃ r, laws_szPassS.l0 k L a (i : Int) = some r ∧ r ≤ 1048576 ∧ (0 ≤ r → ∀ p ∈ L.drop i, p.f0.length ≤ 1048576 ∧ ∀ x ∈ p.f0, Pass.small (Pass.cv x)) := by
  induction d with
  | zero =>
    intro k i a h1 h2 h3 h4 h5
    obtain ⟨k, rfl⟩ : ∃ m, k = m + 1 := ⟨k - 1, by omega⟩
    rw [laws_szPassS.l0, if_neg (by omega), List.drop_eq_nil_of_le (by omega)]
    exact ⟨a, rfl, h5, fun _ x hx => by cases hx⟩
  | succ d ih =>
    intro k i a h1 h2 h3 h4 h5
    obtain ⟨k, rfl⟩ : ∃ m, k = m + 1 := ⟨k - 1, by omega⟩
    have hi : i < L.length := by omega
    have hp := hL.2 _ (List.getElem_mem hi)
    have hm := hM _ (List.getElem_mem hi)
    obtain ⟨t, e, ht, hs⟩ := Pass.szPass L[i].f0 L[i].f1 hp.2 hp.1 k (by omega) a h4 h5
    rw [laws_szPassS.l0, if_pos (by omega), if_pos (by omega), Pass.rdA hi, e, Pass.wr i (by omega)]
    simp only [Option.bind_some]
    by_cases c : t < 0
    · rw [if_pos c]; exact ⟨-1, rfl, by omega, fun z => absurd z (by omega)⟩
    · rw [if_neg c]
      obtain ⟨r, e2, hr, hq⟩ := ih k (i + 1) t (by omega) (by omega) (by omega) (by omega) ht
      refine ⟨r, e2, hr, fun z p hx => ?_⟩
      rw [List.drop_eq_getElem_cons hi] at hx
      rcases List.mem_cons.1 hx with rfl | hx
      · exact hs (by omega)
      · exact hq z p hx
theorem Pass.toRules (R : List S208) (hl : R.length ≤ 1048576) (d : Nat) : ∀ (k i : Nat) (X : List S176), X.length = R.length → (∀ j < i, X[j]? = (R.map Pass.cv)[j]?) → i ≤ R.length → R.length - i = d → d < k →
    laws_toWriteRuleS.l0 k R X (i : Int) = some (R.map Pass.cv) := by
  induction d with
  | zero =>
    intro k i X hx hg h1 h2 h3
    obtain ⟨k, rfl⟩ : ∃ m, k = m + 1 := ⟨k - 1, by omega⟩
    rw [laws_toWriteRuleS.l0, if_neg (by omega)]
    congr 1
    apply List.ext_getElem?
    intro j
    by_cases hj : j < i
    · exact hg j hj
    · rw [List.getElem?_eq_none (by omega), List.getElem?_eq_none (by rw [List.length_map]; omega)]
  | succ d ih =>
    intro k i X hx hg h1 h2 h3
    obtain ⟨k, rfl⟩ : ∃ m, k = m + 1 := ⟨k - 1, by omega⟩
    have hi : i < R.length := by omega
    rw [laws_toWriteRuleS.l0, if_pos (by omega), if_pos (by omega), Pass.rdB hi, Pass.wr i (by omega), Int.toNat_natCast]
    unfold laws_toWriteRule.f
    simp only [Option.bind_some]
    rw [if_pos (by omega)]
    refine ih k (i + 1) _ (by rw [List.length_set]; exact hx) ?_ (by omega) (by omega) (by omega)
    intro j hj
    by_cases c : j = i
    · subst c
      rw [List.getElem?_set_self (by omega), List.getElem?_map, List.getElem?_eq_getElem hi]
      rfl
    · rw [List.getElem?_set_ne (by omega)]; exact hg j (by omega)
theorem Pass.toPass (R : List S208) (n : Int) (hl : R.length ≤ 1048576) (k : Nat) (hk : R.length < k) : laws_toPass.f k R n = some (R.map Pass.cv, n) := by
  unfold laws_toPass.f laws_toWriteRuleS.f
  rw [if_pos (by omega), if_pos (by rw [Int.toNat_natCast]; omega)]
  have q := Pass.toRules R hl R.length k 0 (List.replicate R.length z176) (by simp) (fun j hj => absurd hj (Nat.not_lt_zero _)) (Nat.zero_le _) rfl hk
  rw [show ((0 : Nat) : Int) = 0 from rfl] at q
  rw [Int.toNat_natCast, q]
  rfl
theorem Pass.toRun (L : List S117) (hl : L.length ≤ 1048576) (hL : ∀ p ∈ L, p.f0.length ≤ 1048576) (M : Nat) (hM : ∀ p ∈ L, p.f0.length < M) (d : Nat) : ∀ (k i : Nat) (X : List S123), X.length = L.length → (∀ j < i, X[j]? = (L.map Pass.cvp)[j]?) → i ≤ L.length → L.length - i = d → d + M < k →
    laws_toPassS.l0 k L X (i : Int) = some (L.map Pass.cvp) := by
  induction d with
  | zero =>
    intro k i X hx hg h1 h2 h3
    obtain ⟨k, rfl⟩ : ∃ m, k = m + 1 := ⟨k - 1, by omega⟩
    rw [laws_toPassS.l0, if_neg (by omega)]
    congr 1
    apply List.ext_getElem?
    intro j
    by_cases hj : j < i
    · exact hg j hj
    · rw [List.getElem?_eq_none (by omega), List.getElem?_eq_none (by rw [List.length_map]; omega)]
  | succ d ih =>
    intro k i X hx hg h1 h2 h3
    obtain ⟨k, rfl⟩ : ∃ m, k = m + 1 := ⟨k - 1, by omega⟩
    have hi : i < L.length := by omega
    rw [laws_toPassS.l0, if_pos (by omega), if_pos (by omega), Pass.rdA hi, Pass.wr i (by omega), Int.toNat_natCast, Pass.toPass _ _ (hL _ (List.getElem_mem hi)) k (by have := hM _ (List.getElem_mem hi); omega)]
    simp only [Option.bind_some]
    rw [if_pos (by omega)]
    refine ih k (i + 1) _ (by rw [List.length_set]; exact hx) ?_ (by omega) (by omega) (by omega)
    intro j hj
    by_cases c : j = i
    · subst c
      rw [List.getElem?_set_self (by omega), List.getElem?_map, List.getElem?_eq_getElem hi]
      rfl
    · rw [List.getElem?_set_ne (by omega)]; exact hg j (by omega)
theorem Pass.to (L : List S117) (hl : L.length ≤ 1048576) (hL : ∀ p ∈ L, p.f0.length ≤ 1048576) (M : Nat) (hM : ∀ p ∈ L, p.f0.length < M) (k : Nat) (hk : L.length + M < k) : laws_toPassS.f k L = some (L.map Pass.cvp) := by
  unfold laws_toPassS.f
  rw [if_pos (by omega), if_pos (by rw [Int.toNat_natCast]; omega)]
  have q := Pass.toRun L hl hL M hM L.length k 0 (List.replicate L.length z123) (by simp) (fun j hj => absurd hj (Nat.not_lt_zero _)) (Nat.zero_le _) rfl hk
  rw [show ((0 : Nat) : Int) = 0 from rfl] at q
  rw [Int.toNat_natCast, q]
theorem Pass.eqRules (R : List S176) (hl : R.length ≤ 1048576) (d : Nat) : ∀ (k i : Nat), i ≤ R.length → R.length - i = d → d < k → laws_eqWriteRuleS.l0 k R R (i : Int) = some true := by
  induction d with
  | zero =>
    intro k i h1 h2 h3
    obtain ⟨k, rfl⟩ : ∃ m, k = m + 1 := ⟨k - 1, by omega⟩
    rw [laws_eqWriteRuleS.l0, if_neg (by omega)]
  | succ d ih =>
    intro k i h1 h2 h3
    obtain ⟨k, rfl⟩ : ∃ m, k = m + 1 := ⟨k - 1, by omega⟩
    have hi : i < R.length := by omega
    rw [laws_eqWriteRuleS.l0, if_pos (by omega), if_pos (by omega), if_pos (by omega), Pass.wr i (by omega)]
    unfold laws_eqWriteRule.f
    rw [if_pos rfl, if_pos rfl, if_pos rfl, if_pos rfl, if_pos rfl]
    simp only [Option.bind_some]
    rw [if_pos trivial]
    exact ih k (i + 1) (by omega) (by omega) (by omega)
theorem Pass.eqRun (L : List S123) (hl : L.length ≤ 1048576) (hL : ∀ p ∈ L, p.f0.length ≤ 1048576) (M : Nat) (hM : ∀ p ∈ L, p.f0.length < M) (d : Nat) : ∀ (k i : Nat), i ≤ L.length → L.length - i = d → d + M < k → laws_eqPassS.l0 k L L (i : Int) = some true := by
  induction d with
  | zero =>
    intro k i h1 h2 h3
    obtain ⟨k, rfl⟩ : ∃ m, k = m + 1 := ⟨k - 1, by omega⟩
    rw [laws_eqPassS.l0, if_neg (by omega)]
  | succ d ih =>
    intro k i h1 h2 h3
    obtain ⟨k, rfl⟩ : ∃ m, k = m + 1 := ⟨k - 1, by omega⟩
    have hi : i < L.length := by omega
    have q := Pass.eqRules L[i].f0 (hL _ (List.getElem_mem hi)) L[i].f0.length k 0 (Nat.zero_le _) rfl (by have := hM _ (List.getElem_mem hi); omega)
    rw [show ((0 : Nat) : Int) = 0 from rfl] at q
    rw [laws_eqPassS.l0, if_pos (by omega), if_pos (by omega), if_pos (by omega), Pass.wr i (by omega), Pass.rdP hi]
    unfold laws_eqPass.f laws_eqWriteRuleS.f
    rw [if_pos rfl, q]
    simp only [Option.bind_some]
    rw [if_pos trivial, if_pos trivial]
    simp only [Option.bind_some]
    rw [if_pos trivial]
    exact ih k (i + 1) (by omega) (by omega) (by omega)
theorem Pass.most : ∀ (L : List S117), ∃ M, ∀ p ∈ L, p.f0.length < M
  | [] => ⟨0, fun p hp => by cases hp⟩
  | p :: t => by
    obtain ⟨M, h⟩ := Pass.most t
    refine ⟨M + p.f0.length + 1, fun q hq => ?_⟩
    rcases List.mem_cons.1 hq with rfl | hq
    · omega
    · have := h q hq; omega

/-! the marks -/
theorem Pass.mt0 (d : Nat) : ∀ (x : Int) (acc : ByteArray), 0 ≤ x → x < (10 ^ d : Nat) → acc.size + d ≤ 1000 → ∃ r, laws_markText.l0 (d + 1) x acc = some r := by
  induction d with
  | zero =>
    intro x acc h0 h1 h2
    have : x = 0 := by simp at h1; omega
    subst this
    rw [laws_markText.l0, if_neg (by omega), if_pos (by omega)]
    exact ⟨_, rfl⟩
  | succ d ih =>
    intro x acc h0 h1 h2
    rw [laws_markText.l0]
    by_cases c : x > 0
    · have hd : Int.tdiv x 10 = x / 10 := Int.tdiv_eq_ediv_of_nonneg h0
      have hp : (10 ^ (d + 1) : Nat) = 10 ^ d * 10 := Nat.pow_succ ..
      rw [hp] at h1
      obtain ⟨Q, hQ⟩ : ∃ Q, (10 ^ d : Nat) = Q := ⟨_, rfl⟩
      rw [hQ] at h1 ih
      rw [if_pos c]
      simp only [Option.bind_some]
      have hs : ∀ y : List Int, (strOfNums y).size = y.length := fun y => strOfNums_size y
      rw [if_pos (by rw [hs]; simp only [List.length_cons, List.length_nil]; omega), hd]
      by_cases big : x / 10 ≤ 9223372036854775807
      · have hw : wrap64 (x / 10) = x / 10 := by unfold wrap64; omega
        rw [hw]
        exact ih (x / 10) _ (by omega) (by omega) (by rw [ByteArray.size_append, hs]; simp only [List.length_cons, List.length_nil]; omega)
      · have hw0 : 0 ≤ wrap64 (x / 10) ∨ wrap64 (x / 10) < 0 := by omega
        by_cases neg : wrap64 (x / 10) ≤ 0
        · obtain ⟨d', hd'⟩ : ∃ d', d + 1 = d' + 1 := ⟨d, rfl⟩
          rw [laws_markText.l0, if_neg (by omega), if_pos (by rw [ByteArray.size_append, hs]; simp only [List.length_cons, List.length_nil]; omega)]
          exact ⟨_, rfl⟩
        · refine ih (wrap64 (x / 10)) _ (by omega) ?_ (by rw [ByteArray.size_append, hs]; simp only [List.length_cons, List.length_nil]; omega)
          have h3 : wrap64 (x / 10) ≤ 9223372036854775807 := by unfold wrap64; omega
          omega
    · rw [if_neg c, if_pos (by omega)]
      exact ⟨_, rfl⟩
theorem Pass.mtT (k : Int) (h1 : k ≤ 1000000000000000) : ∃ r, laws_markText.f 30 k = some r := by
  unfold laws_markText.f
  by_cases c : k ≤ 0
  · rw [if_pos c]; exact ⟨_, rfl⟩
  · rw [if_neg c]
    exact Pass.mt0 29 k _ (by omega) (by have : ((10 ^ 29 : Nat) : Int) = 100000000000000000000000000000 := by decide
                                         rw [this]; omega) (by decide)
def Pass.mk (k : Int) : ByteArray := (laws_markText.f 30 k).getD ByteArray.empty
theorem Pass.mt (k : Int) (h1 : k ≤ 1000000000000000) (n : Nat) : laws_markText.f (30 + n) k = some (Pass.mk k) := by
  induction n with
  | zero =>
    obtain ⟨r, hr⟩ := Pass.mtT k h1
    unfold Pass.mk
    rw [Nat.add_zero, hr]; rfl
  | succ n ih => exact laws_markText.mono k (30 + n) _ ih
theorem Pass.mt' (k : Int) (h1 : k ≤ 1000000000000000) (n : Nat) (hn : 30 ≤ n) : laws_markText.f n k = some (Pass.mk k) := by
  obtain ⟨m, rfl⟩ : ∃ m, n = 30 + m := ⟨n - 30, by omega⟩
  exact Pass.mt k h1 m
def Pass.mrule (a : Int) : S176 := ⟨Pass.mk a, Pass.mk (a + 1), Pass.mk (a + 2), Pass.mk (a + 3), a + 4⟩
def Pass.mr : List S176 → Int → List S176
  | [], _ => []
  | _ :: t, a => Pass.mrule a :: Pass.mr t (a + 5)
theorem Pass.mr_len : ∀ (R : List S176) (a : Int), (Pass.mr R a).length = R.length
  | [], _ => rfl
  | _ :: t, a => by unfold Pass.mr; rw [List.length_cons, List.length_cons, Pass.mr_len t]
theorem Pass.set_mid {α : Type} (pre : List α) (r v : α) (t : List α) : (pre ++ r :: t).set pre.length v = pre ++ v :: t := by
  rw [List.set_append_right _ _ (Nat.le_refl _), Nat.sub_self, List.set_cons_zero]
theorem Pass.rd_midR (pre : List S176) (r : S176) (t : List S176) : rd_T176 (pre ++ r :: t) (pre.length : Int) = r := by
  simp [rd_T176, List.getD]
theorem Pass.rd_midP (pre : List S123) (r : S123) (t : List S123) : rd_T123 (pre ++ r :: t) (pre.length : Int) = r := by
  simp [rd_T123, List.getD]
theorem Pass.w1 (a : Int) (h0 : 0 ≤ a) (h1 : a ≤ 2000000000000000) : wrap64 (a + 1) = a + 1 := by unfold wrap64; omega
theorem Pass.markRules : ∀ (rest pre : List S176) (a : Int) (n : Nat), 0 ≤ a → a + 5 * (rest.length : Int) ≤ 1000000000000000 → pre.length + rest.length ≤ 4194304 → rest.length + 31 ≤ n →
    laws_markWriteRuleS.l0 n (pre ++ rest) a (pre.length : Int) = some (a + 5 * (rest.length : Int), pre ++ Pass.mr rest a)
  | [], pre, a, n, h0, h1, h2, h3 => by
    obtain ⟨n, rfl⟩ : ∃ m, n = m + 1 := ⟨n - 1, by omega⟩
    rw [laws_markWriteRuleS.l0, List.append_nil, if_neg (by omega)]
    simp [Pass.mr]
  | r :: t, pre, a, n, h0, h1, h2, h3 => by
    rw [List.length_cons] at h1 h2 h3
    obtain ⟨n, rfl⟩ : ∃ m, n = m + 1 := ⟨n - 1, by omega⟩
    have e1 := Pass.w1 a h0 (by omega)
    have e2 := Pass.w1 (a + 1) (by omega) (by omega)
    have e3 := Pass.w1 (a + 1 + 1) (by omega) (by omega)
    have e4 := Pass.w1 (a + 1 + 1 + 1) (by omega) (by omega)
    have e5 := Pass.w1 (a + 1 + 1 + 1 + 1) (by omega) (by omega)
    have e6 : wrap64 ((pre.length : Int) + 1) = ((pre.length + 1 : Nat) : Int) := by unfold wrap64; omega
    rw [laws_markWriteRuleS.l0, if_pos (by rw [List.length_append, List.length_cons]; omega), e1, e2, e3, e4, e5, e6, Pass.mt' a (by omega) n (by omega), Pass.mt' (a + 1) (by omega) n (by omega), Pass.mt' (a + 1 + 1) (by omega) n (by omega), Pass.mt' (a + 1 + 1 + 1) (by omega) n (by omega)]
    simp only [Option.bind_some]
    rw [if_pos (by omega)]
    simp only [Int.toNat_natCast, Pass.set_mid, Pass.rd_midR]
    have ih := Pass.markRules t (pre ++ [Pass.mrule a]) (a + 5) n (by omega) (by omega) (by rw [List.length_append]; simp only [List.length_cons, List.length_nil]; omega) (by omega)
    have el : ((pre ++ [Pass.mrule a]).length : Int) = ((pre.length + 1 : Nat) : Int) := by rw [List.length_append]; rfl
    have ea : pre ++ [Pass.mrule a] ++ t = pre ++ Pass.mrule a :: t := by simp
    have eb : pre ++ [Pass.mrule a] ++ Pass.mr t (a + 5) = pre ++ Pass.mr (r :: t) a := by simp [Pass.mr]
    rw [el, ea, eb] at ih
    have ec : (⟨Pass.mk a, Pass.mk (a + 1), Pass.mk (a + 1 + 1), Pass.mk (a + 1 + 1 + 1), a + 1 + 1 + 1 + 1⟩ : S176) = Pass.mrule a := by
      unfold Pass.mrule
      rw [show a + 1 + 1 = a + 2 by omega, show a + 2 + 1 = a + 3 by omega, show a + 3 + 1 = a + 4 by omega]
    rw [ec, show a + 1 + 1 + 1 + 1 + 1 = a + 5 by omega, ih, List.length_cons]
    congr 2
    omega
theorem Pass.heldRules : ∀ (rest pre : List S176) (a : Int) (n : Nat), 0 ≤ a → a + 5 * (rest.length : Int) ≤ 1000000000000000 → pre.length + rest.length ≤ 4194304 → rest.length + 31 ≤ n →
    laws_heldWriteRuleS.l0 n (pre ++ Pass.mr rest a) a (pre.length : Int) = some (a + 5 * (rest.length : Int))
  | [], pre, a, n, h0, h1, h2, h3 => by
    obtain ⟨n, rfl⟩ : ∃ m, n = m + 1 := ⟨n - 1, by omega⟩
    unfold Pass.mr
    rw [laws_heldWriteRuleS.l0, List.append_nil, if_neg (by omega)]
    simp
  | r :: t, pre, a, n, h0, h1, h2, h3 => by
    rw [List.length_cons] at h1 h2 h3
    obtain ⟨n, rfl⟩ : ∃ m, n = m + 1 := ⟨n - 1, by omega⟩
    have e1 := Pass.w1 a h0 (by omega)
    have e2 := Pass.w1 (a + 1) (by omega) (by omega)
    have e3 := Pass.w1 (a + 1 + 1) (by omega) (by omega)
    have e4 := Pass.w1 (a + 1 + 1 + 1) (by omega) (by omega)
    have e5 := Pass.w1 (a + 1 + 1 + 1 + 1) (by omega) (by omega)
    have e6 : wrap64 ((pre.length : Int) + 1) = ((pre.length + 1 : Nat) : Int) := by unfold wrap64; omega
    have ec : Pass.mrule a = (⟨Pass.mk a, Pass.mk (a + 1), Pass.mk (a + 1 + 1), Pass.mk (a + 1 + 1 + 1), a + 1 + 1 + 1 + 1⟩ : S176) := by
      unfold Pass.mrule
      rw [show a + 1 + 1 = a + 2 by omega, show a + 2 + 1 = a + 3 by omega, show a + 3 + 1 = a + 4 by omega]
    have ih := Pass.heldRules t (pre ++ [Pass.mrule a]) (a + 5) n (by omega) (by omega) (by rw [List.length_append]; simp only [List.length_cons, List.length_nil]; omega) (by omega)
    have el : ((pre ++ [Pass.mrule a]).length : Int) = ((pre.length + 1 : Nat) : Int) := by rw [List.length_append]; rfl
    have ea : pre ++ [Pass.mrule a] ++ Pass.mr t (a + 5) = pre ++ Pass.mrule a :: Pass.mr t (a + 5) := by simp
    rw [el, ea] at ih
    unfold Pass.mr
    rw [laws_heldWriteRuleS.l0, if_pos (by rw [List.length_append, List.length_cons]; omega), if_pos (by omega), Pass.rd_midR, e1, e2, e3, e4, e5, e6, Pass.mt' a (by omega) n (by omega), Pass.mt' (a + 1) (by omega) n (by omega), Pass.mt' (a + 1 + 1) (by omega) n (by omega), Pass.mt' (a + 1 + 1 + 1) (by omega) n (by omega)]
    simp only [Option.bind_some]
    rw [ec]
    simp only [if_true]
    rw [← ec, show a + 1 + 1 + 1 + 1 + 1 = a + 5 by omega, ih, List.length_cons]
    congr 1
    omega
def Pass.mp : List S123 → Int → List S123
  | [], _ => []
  | p :: t, a => ⟨Pass.mr p.f0 a, a + 5 * (p.f0.length : Int)⟩ :: Pass.mp t (a + 5 * (p.f0.length : Int) + 1)
def Pass.me : List S123 → Int → Int
  | [], a => a
  | p :: t, a => Pass.me t (a + 5 * (p.f0.length : Int) + 1)
theorem Pass.me_bound (M : Nat) : ∀ (L : List S123) (a : Int), (∀ p ∈ L, p.f0.length ≤ M) → a ≤ Pass.me L a ∧ Pass.me L a ≤ a + (L.length : Int) * (5 * (M : Int) + 1)
  | [], a, _ => ⟨Int.le_refl _, by simp [Pass.me]⟩
  | p :: t, a, h => by
    have h1 := h p (List.mem_cons_self ..)
    obtain ⟨h2, h3⟩ := Pass.me_bound M t (a + 5 * (p.f0.length : Int) + 1) (fun q hq => h q (List.mem_cons_of_mem _ hq))
    unfold Pass.me
    rw [List.length_cons]
    have h4 : ((t.length + 1 : Nat) : Int) * (5 * (M : Int) + 1) = (t.length : Int) * (5 * (M : Int) + 1) + (5 * (M : Int) + 1) := by
      rw [Int.natCast_add, Int.add_mul]; simp
    rw [h4]
    constructor <;> omega
theorem Pass.markPasses (M : Nat) : ∀ (rest pre : List S123) (a : Int) (n : Nat), 0 ≤ a → Pass.me rest a ≤ 1000000000000000 → pre.length + rest.length ≤ 4194304 → (∀ p ∈ rest, p.f0.length ≤ 4194304 ∧ p.f0.length ≤ M) → rest.length + M + 32 ≤ n →
    laws_markPassS.l0 n (pre ++ rest) a (pre.length : Int) = some (Pass.me rest a, pre ++ Pass.mp rest a)
  | [], pre, a, n, h0, h1, h2, h3, h4 => by
    obtain ⟨n, rfl⟩ : ∃ m, n = m + 1 := ⟨n - 1, by omega⟩
    rw [laws_markPassS.l0, List.append_nil, if_neg (by omega)]
    simp [Pass.mp, Pass.me]
  | p :: t, pre, a, n, h0, h1, h2, h3, h4 => by
    rw [List.length_cons] at h2 h4
    obtain ⟨n, rfl⟩ : ∃ m, n = m + 1 := ⟨n - 1, by omega⟩
    have hp := h3 p (List.mem_cons_self ..)
    unfold Pass.me at h1
    have hb := (Pass.me_bound M t (a + 5 * (p.f0.length : Int) + 1) (fun q hq => (h3 q (List.mem_cons_of_mem _ hq)).2)).1
    have e6 : wrap64 ((pre.length : Int) + 1) = ((pre.length + 1 : Nat) : Int) := by unfold wrap64; omega
    have e7 := Pass.w1 (a + 5 * (p.f0.length : Int)) (by omega) (by omega)
    have q := Pass.markRules p.f0 [] a n h0 (by omega) (by simp; omega) (by omega)
    simp only [List.nil_append, List.length_nil] at q
    have ih := Pass.markPasses M t (pre ++ [⟨Pass.mr p.f0 a, a + 5 * (p.f0.length : Int)⟩]) (a + 5 * (p.f0.length : Int) + 1) n (by omega) h1 (by rw [List.length_append]; simp only [List.length_cons, List.length_nil]; omega) (fun q hq => h3 q (List.mem_cons_of_mem _ hq)) (by omega)
    have el : ((pre ++ [(⟨Pass.mr p.f0 a, a + 5 * (p.f0.length : Int)⟩ : S123)]).length : Int) = ((pre.length + 1 : Nat) : Int) := by rw [List.length_append]; rfl
    have ea : pre ++ [(⟨Pass.mr p.f0 a, a + 5 * (p.f0.length : Int)⟩ : S123)] ++ t = pre ++ ⟨Pass.mr p.f0 a, a + 5 * (p.f0.length : Int)⟩ :: t := by simp
    have eb : pre ++ [(⟨Pass.mr p.f0 a, a + 5 * (p.f0.length : Int)⟩ : S123)] ++ Pass.mp t (a + 5 * (p.f0.length : Int) + 1) = pre ++ Pass.mp (p :: t) a := by simp [Pass.mp]
    rw [el, ea, eb] at ih
    rw [laws_markPassS.l0, if_pos (by rw [List.length_append, List.length_cons]; omega), if_pos (by omega), Pass.rd_midP]
    unfold laws_markWriteRuleS.f
    rw [show ((0 : Nat) : Int) = 0 from rfl] at q
    rw [q]
    simp only [Option.bind_some, Int.toNat_natCast, Pass.set_mid]
    rw [e6, e7, ih]
    rfl
theorem Pass.heldPasses (M : Nat) : ∀ (rest pre : List S123) (a : Int) (n : Nat), 0 ≤ a → Pass.me rest a ≤ 1000000000000000 → pre.length + rest.length ≤ 4194304 → (∀ p ∈ rest, p.f0.length ≤ 4194304 ∧ p.f0.length ≤ M) → rest.length + M + 32 ≤ n →
    laws_heldPassS.l0 n (pre ++ Pass.mp rest a) a (pre.length : Int) = some (Pass.me rest a)
  | [], pre, a, n, h0, h1, h2, h3, h4 => by
    obtain ⟨n, rfl⟩ : ∃ m, n = m + 1 := ⟨n - 1, by omega⟩
    unfold Pass.mp
    rw [laws_heldPassS.l0, List.append_nil, if_neg (by omega)]
    simp [Pass.me]
  | p :: t, pre, a, n, h0, h1, h2, h3, h4 => by
    rw [List.length_cons] at h2 h4
    obtain ⟨n, rfl⟩ : ∃ m, n = m + 1 := ⟨n - 1, by omega⟩
    have hp := h3 p (List.mem_cons_self ..)
    unfold Pass.me at h1
    have hb := (Pass.me_bound M t (a + 5 * (p.f0.length : Int) + 1) (fun q hq => (h3 q (List.mem_cons_of_mem _ hq)).2)).1
    have e6 : wrap64 ((pre.length : Int) + 1) = ((pre.length + 1 : Nat) : Int) := by unfold wrap64; omega
    have e7 := Pass.w1 (a + 5 * (p.f0.length : Int)) (by omega) (by omega)
    have q := Pass.heldRules p.f0 [] a n h0 (by omega) (by simp; omega) (by omega)
    simp only [List.nil_append, List.length_nil] at q
    have ih := Pass.heldPasses M t (pre ++ [⟨Pass.mr p.f0 a, a + 5 * (p.f0.length : Int)⟩]) (a + 5 * (p.f0.length : Int) + 1) n (by omega) h1 (by rw [List.length_append]; simp only [List.length_cons, List.length_nil]; omega) (fun q hq => h3 q (List.mem_cons_of_mem _ hq)) (by omega)
    have el : ((pre ++ [(⟨Pass.mr p.f0 a, a + 5 * (p.f0.length : Int)⟩ : S123)]).length : Int) = ((pre.length + 1 : Nat) : Int) := by rw [List.length_append]; rfl
    have ea : pre ++ [(⟨Pass.mr p.f0 a, a + 5 * (p.f0.length : Int)⟩ : S123)] ++ Pass.mp t (a + 5 * (p.f0.length : Int) + 1) = pre ++ ⟨Pass.mr p.f0 a, a + 5 * (p.f0.length : Int)⟩ :: Pass.mp t (a + 5 * (p.f0.length : Int) + 1) := by simp
    rw [el, ea] at ih
    unfold Pass.mp
    rw [laws_heldPassS.l0, if_pos (by rw [List.length_append, List.length_cons]; omega), if_pos (by omega), Pass.rd_midP]
    unfold laws_heldWriteRuleS.f
    rw [show ((0 : Nat) : Int) = 0 from rfl] at q
    rw [q]
    simp only [Option.bind_some]
    rw [if_neg (by omega), if_pos trivial, e6, e7, ih]
    rfl
/-! the passes turned -/
def Pass.none3 (r : S176) : Bool := decide (r.f3.toList = ([] : List UInt8))
def Pass.tr (r : S176) : S176 := ⟨r.f0, r.f3, r.f2, r.f1, 0⟩
def Pass.tp (p : S123) : S123 := ⟨p.f0.map Pass.tr, p.f1⟩
/-- what both come to, passes i - 1 down to 0 still to be turned -/
def Pass.turn (L : List S123) : Nat → List S123 → List S123 × Bool
  | 0, acc => (acc, true)
  | i + 1, acc => if (L.getD i z123).f0.any Pass.none3 then ([], false) else Pass.turn L i (acc ++ [Pass.tp (L.getD i z123)])
theorem Pass.sTurn1 (L : List S123) (hL : Pass.few L) (acc : List S123) (i : Nat) (hi : i < L.length) (n : Int) (k : Nat) (hacc : acc.length ≤ 1048576) (d : Nat) : ∀ (j : Nat) (rs : List S176), j ≤ L[i].f0.length → L[i].f0.length - j = d → rs.length ≤ j →
    spec_l13Turned.l1 (k + d + 1) L acc (i : Int) (j : Int) rs n = if (L[i].f0.drop j).any Pass.none3 then some ([], false) else spec_l13Turned.l0 k L (acc ++ [⟨rs ++ (L[i].f0.drop j).map Pass.tr, n⟩]) (wrap64 ((i : Int) - 1)) := by
  have hp := hL.2 L[i] (List.getElem_mem hi)
  induction d with
  | zero =>
    intro j rs h1 h2 h3
    rw [spec_l13Turned.l1, Pass.rdP hi, if_pos (by omega), if_pos (by omega), if_neg (by omega), List.drop_eq_nil_of_le (by omega), if_pos (by omega)]
    simp
  | succ d ih =>
    intro j rs h1 h2 h3
    have hj : j < L[i].f0.length := by omega
    have hw : wrap64 ((j : Int) + 1) = ((j + 1 : Nat) : Int) := by unfold wrap64; omega
    rw [show k + (d + 1) + 1 = (k + d + 1) + 1 from rfl, spec_l13Turned.l1, Pass.rdP hi, if_pos (by omega), if_pos (by omega), if_pos (by omega), if_pos (by omega), Pass.rdR hj, List.drop_eq_getElem_cons hj, List.any_cons]
    by_cases c : (L[i].f0[j]).f3.toList = ([] : List UInt8)
    · rw [if_pos c]
      have : Pass.none3 (L[i].f0[j]) = true := decide_eq_true c
      rw [this, Bool.true_or, if_pos rfl]
    · rw [if_neg c, if_pos (by omega), hw, ih (j + 1) _ (by omega) (by omega) (by rw [List.length_append]; simp only [List.length_cons, List.length_nil]; omega)]
      have : Pass.none3 (L[i].f0[j]) = false := decide_eq_false c
      rw [this, Bool.false_or]
      have e : rs ++ [(⟨(L[i].f0[j]).f0, (L[i].f0[j]).f3, (L[i].f0[j]).f2, (L[i].f0[j]).f1, 0⟩ : S176)] ++ (L[i].f0.drop (j + 1)).map Pass.tr = rs ++ (L[i].f0[j] :: L[i].f0.drop (j + 1)).map Pass.tr := by
        rw [List.append_assoc]; rfl
      rw [e]
theorem Pass.iTurn1 (L : List S123) (hL : Pass.few L) (acc : List S123) (i : Nat) (hi : i < L.length) (n : Int) (k : Nat) (hacc : acc.length ≤ 1048576) (d : Nat) : ∀ (j : Nat) (rs : List S176), j ≤ L[i].f0.length → L[i].f0.length - j = d → rs.length ≤ j →
    impl_turned.l1 (k + d + 1) L acc (i : Int) L[i].f0 (L[i].f0.length : Int) (j : Int) rs n = if (L[i].f0.drop j).any Pass.none3 then some ([], false) else impl_turned.l0 k L (acc ++ [⟨rs ++ (L[i].f0.drop j).map Pass.tr, n⟩]) (wrap64 ((i : Int) - 1)) := by
  have hp := hL.2 L[i] (List.getElem_mem hi)
  induction d with
  | zero =>
    intro j rs h1 h2 h3
    rw [impl_turned.l1, if_neg (by omega), List.drop_eq_nil_of_le (by omega), if_pos (by omega)]
    simp
  | succ d ih =>
    intro j rs h1 h2 h3
    have hj : j < L[i].f0.length := by omega
    have hw : wrap64 ((j : Int) + 1) = ((j + 1 : Nat) : Int) := by unfold wrap64; omega
    rw [show k + (d + 1) + 1 = (k + d + 1) + 1 from rfl, impl_turned.l1, if_pos (by omega), if_pos (by omega), if_pos (by omega), Pass.rdR hj, List.drop_eq_getElem_cons hj, List.any_cons]
    by_cases c : (L[i].f0[j]).f3.toList = ([] : List UInt8)
    · rw [if_pos c]
      have : Pass.none3 (L[i].f0[j]) = true := decide_eq_true c
      rw [this, Bool.true_or, if_pos rfl]
    · rw [if_neg c, if_pos (by omega), hw, ih (j + 1) _ (by omega) (by omega) (by rw [List.length_append]; simp only [List.length_cons, List.length_nil]; omega)]
      have : Pass.none3 (L[i].f0[j]) = false := decide_eq_false c
      rw [this, Bool.false_or]
      have e : rs ++ [(⟨(L[i].f0[j]).f0, (L[i].f0[j]).f3, (L[i].f0[j]).f2, (L[i].f0[j]).f1, 0⟩ : S176)] ++ (L[i].f0.drop (j + 1)).map Pass.tr = rs ++ (L[i].f0[j] :: L[i].f0.drop (j + 1)).map Pass.tr := by
        rw [List.append_assoc]; rfl
      rw [e]
theorem Pass.turnRun (L : List S123) (hL : Pass.few L) (M : Nat) (hM : ∀ p ∈ L, p.f0.length < M) : ∀ (i k : Nat) (acc : List S123), i ≤ L.length → acc.length + i ≤ L.length → i * (M + 2) + 1 ≤ k →
    spec_l13Turned.l0 k L acc ((i : Int) - 1) = some (Pass.turn L i acc) ∧ impl_turned.l0 k L acc ((i : Int) - 1) = some (Pass.turn L i acc)
  | 0, k, acc, h1, h2, h3 => by
    obtain ⟨k, rfl⟩ : ∃ m, k = m + 1 := ⟨k - 1, by omega⟩
    rw [spec_l13Turned.l0, impl_turned.l0, if_neg (by omega), if_neg (by omega)]
    exact ⟨rfl, rfl⟩
  | i + 1, k, acc, h1, h2, h3 => by
    have hl := hL.1
    have hi : i < L.length := by omega
    have hm := hM L[i] (List.getElem_mem hi)
    rw [Nat.succ_mul] at h3
    obtain ⟨k', rfl⟩ : ∃ m, k = m + L[i].f0.length + 1 + 1 := ⟨k - L[i].f0.length - 2, by omega⟩
    have e0 : ((i + 1 : Nat) : Int) - 1 = (i : Int) := by omega
    have hw : wrap64 ((i : Int) - 1) = (i : Int) - 1 := by unfold wrap64; omega
    have s := Pass.sTurn1 L hL acc i hi L[i].f1 k' (by omega) L[i].f0.length 0 [] (Nat.zero_le _) rfl (Nat.le_refl _)
    have m := Pass.iTurn1 L hL acc i hi L[i].f1 k' (by omega) L[i].f0.length 0 [] (Nat.zero_le _) rfl (Nat.le_refl _)
    rw [show ((0 : Nat) : Int) = 0 from rfl, List.drop_zero, List.nil_append, hw] at s m
    have eg : L.getD i z123 = L[i] := by simp [List.getD, hi]
    rw [e0, spec_l13Turned.l0, impl_turned.l0, if_pos (by omega), if_pos (by omega), if_pos (by omega), if_pos (by omega), if_pos (by omega), if_pos (by omega), Pass.rdP hi, s, m]
    unfold Pass.turn
    rw [eg]
    by_cases c : L[i].f0.any Pass.none3 = true
    · rw [if_pos c, if_pos c, if_pos c]; exact ⟨rfl, rfl⟩
    · rw [if_neg c, if_neg c, if_neg c]
      have ih := Pass.turnRun L hL M hM i k' (acc ++ [Pass.tp L[i]]) (by omega) (by rw [List.length_append]; simp only [List.length_cons, List.length_nil]; omega) (by omega)
      exact ih
theorem Pass.turn_few (L : List S123) (hL : Pass.few L) (M : Nat) (hM : ∀ p ∈ L, p.f0.length < M) : ∀ (i : Nat) (acc : List S123), i ≤ L.length → acc.length + i ≤ 1048576 → (∀ p ∈ acc, p.f0.length ≤ 1048576 ∧ p.f0.length < M) →
    (Pass.turn L i acc).1.length ≤ 1048576 ∧ ∀ p ∈ (Pass.turn L i acc).1, p.f0.length ≤ 1048576 ∧ p.f0.length < M
  | 0, acc, _, h2, h3 => ⟨by unfold Pass.turn; simpa using h2, h3⟩
  | i + 1, acc, h1, h2, h3 => by
    have hi : i < L.length := by omega
    have hm := hM L[i] (List.getElem_mem hi)
    have hp := hL.2 L[i] (List.getElem_mem hi)
    have eg : L.getD i z123 = L[i] := by simp [List.getD, hi]
    unfold Pass.turn
    rw [eg]
    split
    · exact ⟨Nat.zero_le _, fun p hp => by cases hp⟩
    · refine Pass.turn_few L hL M hM i _ (by omega) (by rw [List.length_append]; simp only [List.length_cons, List.length_nil]; omega) (fun p hp2 => ?_)
      rcases List.mem_append.1 hp2 with h | h
      · exact h3 p h
      · rw [List.mem_singleton.1 h]
        show (L[i].f0.map Pass.tr).length ≤ _ ∧ (L[i].f0.map Pass.tr).length < _
        rw [List.length_map]
        exact ⟨hp.1, hm⟩
theorem FnExactTurnedPasses (L : List S117) (hL : Pass.fit L) : ∃ k, laws_FnExactTurnedPasses.f k L = some true := by
  obtain ⟨M, hM⟩ := Pass.most L
  refine ⟨L.length + M + Pass.need (L.map Pass.cvp) + 100 + (L.map Pass.cvp).length + L.length * (M + 2) + 1048576, ?_⟩
  obtain ⟨k, hk⟩ : ∃ k, L.length + M + Pass.need (L.map Pass.cvp) + 100 + (L.map Pass.cvp).length + L.length * (M + 2) + 1048576 = k := ⟨_, rfl⟩
  rw [hk]
  unfold laws_FnExactTurnedPasses.f laws_szPassS.f
  rw [Pass.sub 1048576 _ (by omega) (by omega) hL.1]
  by_cases c : (1048576 : Int) - (L.length : Int) < 0
  · rw [if_pos c]
    simp only [Option.bind_some]
    rw [if_pos (by decide)]
  · rw [if_neg c]
    obtain ⟨r, e, _, hq⟩ := Pass.szRun L hL (by omega) M hM L.length k 0 (1048576 - (L.length : Int)) (Nat.zero_le _) rfl (by omega) (by omega) (by omega)
    rw [show ((0 : Nat) : Int) = 0 from rfl] at e
    rw [e]
    simp only [Option.bind_some]
    by_cases g : r < 0
    · rw [if_pos g]
    · rw [if_neg g]
      have hs := hq (by omega)
      rw [List.drop_zero] at hs
      have hf : Pass.few (L.map Pass.cvp) := by
        refine ⟨by rw [List.length_map]; omega, fun p hp => ?_⟩
        obtain ⟨q, hq, rfl⟩ := List.mem_map.1 hp
        obtain ⟨h1, h2⟩ := hs q hq
        refine ⟨by show (q.f0.map Pass.cv).length ≤ 1048576; rw [List.length_map]; exact h1, fun x hx => ?_⟩
        obtain ⟨y, hy, rfl⟩ := List.mem_map.1 (show x ∈ q.f0.map Pass.cv from hx)
        exact h2 y hy
      have hM2 : ∀ p ∈ L.map Pass.cvp, p.f0.length < M := by
        intro p hp
        obtain ⟨q, hq, rfl⟩ := List.mem_map.1 hp
        show (q.f0.map Pass.cv).length < M
        rw [List.length_map]
        exact hM q hq
      obtain ⟨X, hX⟩ : ∃ X, L.map Pass.cvp = X := ⟨_, rfl⟩
      have hlen : X.length = L.length := by rw [← hX]; exact List.length_map _
      rw [Pass.to L (by omega) (fun p hp => (hs p hp).1) M hM k (by omega)]
      rw [hX] at hf hM2 hk ⊢
      simp only [Option.bind_some]
      obtain ⟨v, s1, s2⟩ := Pass.both X hf k (by omega)
      obtain ⟨t1, t2⟩ := Pass.turnRun X hf M hM2 X.length k [] (Nat.le_refl _) (by simp) (by rw [hlen]; omega)
      have hwl : wrap64 ((X.length : Int) - 1) = (X.length : Int) - 1 := by have := hf.1; unfold wrap64; omega
      obtain ⟨G, hG1, hG2, hGf⟩ : ∃ G, spec_TurnedPasses.f k X = some G ∧ impl_TurnedPasses.f k X = some G ∧ (G.length ≤ 1048576 ∧ ∀ p ∈ G, p.f0.length ≤ 1048576 ∧ p.f0.length < M) := by
        unfold spec_TurnedPasses.f impl_TurnedPasses.f spec_l13Turned.f impl_turned.f
        rw [s1, s2, hwl, t1, t2]
        simp only [Option.bind_some]
        by_cases c0 : v = 0
        · rw [if_pos c0, if_pos c0]
          have hT := Pass.turn_few X hf M hM2 X.length [] (Nat.le_refl _) (by have := hf.1; simp; omega) (fun p hp => by cases hp)
          have hff : ∀ (i : Nat) (acc : List S123), (Pass.turn X i acc).2 = false → (Pass.turn X i acc).1 = [] := by
            intro i
            induction i with
            | zero => intro acc h; unfold Pass.turn at h; cases h
            | succ i ih =>
              intro acc h
              unfold Pass.turn at h ⊢
              split at h
              · rename_i c; rw [if_pos c]
              · rename_i c; rw [if_neg c]; exact ih _ h
          by_cases c1 : (Pass.turn X X.length []).2 = true
          · rw [if_pos c1]
            exact ⟨_, rfl, rfl, hT⟩
          · rw [if_neg c1]
            have := hff X.length [] (by simpa using c1)
            exact ⟨[], rfl, by rw [this], Nat.zero_le _, fun p hp => by cases hp⟩
        · rw [if_neg c0, if_neg c0]
          exact ⟨[], rfl, rfl, Nat.zero_le _, fun p hp => by cases hp⟩
      rw [hG1, hG2]
      simp only [Option.bind_some]
      have q1 := Pass.eqRun G hGf.1 (fun p hp => (hGf.2 p hp).1) M (fun p hp => (hGf.2 p hp).2) G.length k 0 (Nat.zero_le _) rfl (by have := hGf.1; omega)
      have q2 := Pass.eqRun X hf.1 (fun p hp => (hf.2 p hp).1) M hM2 X.length k 0 (Nat.zero_le _) rfl (by omega)
      rw [show ((0 : Nat) : Int) = 0 from rfl] at q1 q2
      unfold laws_eqPassS.f
      rw [if_pos rfl, if_pos rfl, q1, q2]
      simp only [Option.bind_some]
      have b1 := Pass.me_bound 1048576 X 1 (fun p hp => (hf.2 p hp).1)
      have b2 := Pass.me_bound 1048576 G 1 (fun p hp => (hGf.2 p hp).1)
      have hX1 := hf.1
      have hG3 := hGf.1
      have m1 := Pass.markPasses M X [] 1 k (by omega) (by omega) (by simp; omega) (fun p hp => ⟨by have := (hf.2 p hp).1; omega, by have := hM2 p hp; omega⟩) (by omega)
      have m2 := Pass.markPasses M G [] 1 k (by omega) (by omega) (by simp; omega) (fun p hp => ⟨by have := (hGf.2 p hp).1; omega, by have := (hGf.2 p hp).2; omega⟩) (by omega)
      have m3 := Pass.heldPasses M G [] 1 k (by omega) (by omega) (by simp; omega) (fun p hp => ⟨by have := (hGf.2 p hp).1; omega, by have := (hGf.2 p hp).2; omega⟩) (by omega)
      simp only [List.nil_append, List.length_nil] at m1 m2 m3
      rw [show ((0 : Nat) : Int) = 0 from rfl] at m1 m2 m3
      unfold laws_markPassS.f laws_heldPassS.f
      rw [m1, m2]
      simp only [Option.bind_some]
      rw [m3]
      simp only [Option.bind_some]
      rw [if_pos ⟨trivial, trivial, by omega, by omega, trivial⟩]
end Go.Proofs.YtnonijganceneaaDoor.Pure
