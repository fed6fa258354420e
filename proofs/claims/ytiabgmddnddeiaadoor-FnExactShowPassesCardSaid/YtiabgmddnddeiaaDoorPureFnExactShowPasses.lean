/- The law FnExactShowPasses in plain Lean: the reference and the program show a row of passes by the same text, at every row. -/
import Derived.Test.YtiabgmddnddeiaaDoorQFnExactShowPassesx12
import Derived.Test.YtiabgmddnddeiaaDoorVFnExactShowPassesVal
import Derived.Test.YtiabgmddnddeiaaDoorVFnExactShowPassesShp
set_option linter.unusedVariables false
set_option linter.unusedSimpArgs false
namespace Go.Proofs.YtiabgmddnddeiaaDoor.Pure
open Go.RowKit Go.Proofs.YtiabgmddnddeiaaDoor.QFnExactShowPasses Go.Proofs.YtiabgmddnddeiaaDoorW.PrintWords Go.Proofs.YtiabgmddnddeiaaDoorW.PrintLast

def Pass.ptsOf (s : ByteArray) : List Int := YtiabgmddnddeiaaDoorPts.pts (bytesOf s)
def Pass.one (s : ByteArray) : Bool := decide ((Pass.ptsOf s).length ≤ 20) && decide (YtiabgmddnddeiaaDoorPts.encs (Pass.ptsOf s) = bytesOf s)
def Pass.ruleOk (r : S108) : Bool := Pass.one r.f0 && (Pass.one r.f1 && (Pass.one r.f2 && (Pass.one r.f3 && (decide (r.f1.size ≠ 0) && decide (0 ≤ r.f4 ∧ r.f4 ≤ ((Pass.ptsOf r.f3).length : Int))))))
def Pass.ok (p : S106) : Bool := decide (0 ≤ p.f1 ∧ p.f1 ≤ 4) && p.f0.all Pass.ruleOk
def Pass.small (r : S108) : Prop := r.f0.size ≤ 1048576 ∧ r.f1.size ≤ 1048576 ∧ r.f2.size ≤ 1048576 ∧ r.f3.size ≤ 1048576
def Pass.few (L : List S106) : Prop := L.length ≤ 1048576 ∧ ∀ p ∈ L, p.f0.length ≤ 1048576 ∧ ∀ r ∈ p.f0, Pass.small r
def Pass.total : List S106 → Nat
  | [] => 0
  | p :: t => p.f0.length + Pass.total t
def Pass.need : List S106 → Nat
  | [] => 1
  | p :: t => 6 * p.f0.length + 6 + Pass.need t
def Pass.cum : List S106 → Int → Bool
  | [], _ => true
  | p :: t, a => Pass.ok p && (decide (a + (p.f0.length : Int) ≤ 100) && Pass.cum t (a + (p.f0.length : Int)))
theorem Pass.cum_eq : ∀ (L : List S106) (a : Int), a ≤ 100 → Pass.cum L a = (L.all Pass.ok && decide (a + (Pass.total L : Int) ≤ 100))
  | [], a, h => by
    unfold Pass.cum Pass.total
    rw [decide_eq_true (by omega)]; rfl
  | p :: t, a, h => by
    unfold Pass.cum Pass.total
    rw [List.all_cons]
    by_cases c : a + (p.f0.length : Int) ≤ 100
    · rw [Pass.cum_eq t _ c, decide_eq_true c, Bool.true_and, Bool.and_assoc]
      have : decide (a + (p.f0.length : Int) + (Pass.total t : Int) ≤ 100) = decide (a + ((p.f0.length + Pass.total t : Nat) : Int) ≤ 100) := decide_eq_decide.2 ⟨fun z => by omega, fun z => by omega⟩
      rw [this]
    · rw [decide_eq_false c, Bool.false_and, Bool.and_false, decide_eq_false (show ¬ a + ((p.f0.length + Pass.total t : Nat) : Int) ≤ 100 by omega), Bool.and_false]
theorem Pass.pts_len (s : ByteArray) : (Pass.ptsOf s).length ≤ s.size := by
  have := YtiabgmddnddeiaaDoorPts.pts_length _ (bytesOf s) (Nat.le_refl _)
  rw [bytesOf_length] at this
  exact this
theorem Pass.pts_none (s : ByteArray) : (Pass.ptsOf s).length = 0 ↔ s.size = 0 := by
  constructor
  · intro h
    rcases Nat.eq_zero_or_pos s.size with z | z
    · exact z
    · have hne : bytesOf s ≠ [] := fun y => by
        have := bytesOf_length s
        rw [y] at this
        simp at this
        omega
      unfold Pass.ptsOf at h
      rw [YtiabgmddnddeiaaDoorPts.pts_cons hne] at h
      simp at h
  · intro h
    have := Pass.pts_len s
    omega
theorem Pass.toList_eq (a b : ByteArray) : (a.toList == b.toList) = decide (bytesOf a = bytesOf b) := by
  by_cases c : bytesOf a = bytesOf b
  · rw [YtiabgmddnddeiaaDoorPts.bytesOf_inj c, decide_eq_true rfl]
    exact beq_self_eq_true _
  · rw [decide_eq_false c]
    apply beq_eq_false_iff_ne.2
    intro e
    apply c
    rw [ByteArray.toList_eq, ByteArray.toList_eq] at e
    rw [ByteArray.ext (Array.ext' e)]
theorem Pass.right (s : ByteArray) (m : Int) (h : s.size ≤ 1048576) : spec_l13Right.f s m = some (decide (m ≤ ((Pass.ptsOf s).length : Int)) && Pass.one s) := by
  have hp := Pass.pts_len s
  unfold spec_l13Right.f W_spec_l01Points.f
  rw [if_pos (by omega)]
  show (if ((Pass.ptsOf s).length : Int) ≥ m then _ else _) = _
  by_cases a : ((Pass.ptsOf s).length : Int) ≥ m
  · rw [if_pos a, decide_eq_true (show m ≤ ((Pass.ptsOf s).length : Int) from a), Bool.true_and]
    unfold Pass.one
    by_cases b : ((Pass.ptsOf s).length : Int) ≤ 20
    · rw [if_pos (show (((YtiabgmddnddeiaaDoorPts.pts (bytesOf s)).length : Int)) ≤ 20 from b), decide_eq_true (show (Pass.ptsOf s).length ≤ 20 by omega), Bool.true_and]
      unfold W_spec_l01Text.f
      rw [if_pos (show (YtiabgmddnddeiaaDoorPts.pts (bytesOf s)).length ≤ 1099511627776 by have : (YtiabgmddnddeiaaDoorPts.pts (bytesOf s)).length ≤ s.size := hp; omega)]
      show some ((strOfNums (YtiabgmddnddeiaaDoorPts.encs (Pass.ptsOf s))).toList == s.toList) = _
      rw [Pass.toList_eq, YtiabgmddnddeiaaDoorPts.bytesOf_strOfNums (YtiabgmddnddeiaaDoorPts.encs_bytes _)]
    · rw [if_neg (show ¬ (((YtiabgmddnddeiaaDoorPts.pts (bytesOf s)).length : Int)) ≤ 20 from b), decide_eq_false (show ¬ (Pass.ptsOf s).length ≤ 20 by omega), Bool.false_and]
  · rw [if_neg a, decide_eq_false (show ¬ m ≤ ((Pass.ptsOf s).length : Int) from a), Bool.false_and]
theorem Pass.well (s : ByteArray) (h : s.size ≤ 1048576) : impl_well.f s = some (decide (YtiabgmddnddeiaaDoorPts.encs (Pass.ptsOf s) = bytesOf s)) := by
  unfold impl_well.f utf8_ValidString.f
  rw [if_pos (by omega)]
  show some (Lib.validD s.data.toList) = _
  rw [YtiabgmddnddeiaaDoorVal.well]
  rfl
theorem Pass.points (s : ByteArray) (h : s.size ≤ 1048576) : W_impl_points.f s = some (Pass.ptsOf s) ∧ W_spec_l01Points.f s = some (Pass.ptsOf s) := by
  unfold W_impl_points.f W_spec_l01Points.f
  rw [if_pos (by omega)]
  exact ⟨rfl, rfl⟩
theorem Pass.rdP {L : List S106} {i : Nat} (h : i < L.length) : rd_T106 L (i : Int) = L[i] := by simp [rd_T106, List.getD, h]
theorem Pass.rdR {L : List S108} {i : Nat} (h : i < L.length) : rd_T108 L (i : Int) = L[i] := by simp [rd_T108, List.getD, h]
theorem Pass.wr (i : Nat) (h : i ≤ 1048576) : wrap64 ((i : Int) + 1) = ((i + 1 : Nat) : Int) := by unfold wrap64; omega
theorem Pass.specRules (L : List S106) (hL : Pass.few L) (i : Nat) (hi : i < L.length) (acc : Int) (k : Nat) (d : Nat) : ∀ (j : Nat), j ≤ L[i].f0.length → L[i].f0.length - j = d →
    spec_PassesFault.l1 (k + d + 1) L acc (i : Int) (j : Int) = if (L[i].f0.drop j).all Pass.ruleOk = true then spec_PassesFault.l0 k L acc ((i + 1 : Nat) : Int) else some 1 := by
  have hp := hL.2 L[i] (List.getElem_mem hi)
  induction d with
  | zero =>
    intro j h1 h2
    rw [spec_PassesFault.l1, Pass.rdP hi, if_pos (by omega), if_pos (by omega), if_neg (by omega), List.drop_eq_nil_of_le (by omega), Pass.wr i (by have := hL.1; omega)]
    rfl
  | succ d ih =>
    intro j h1 h2
    have hj : j < L[i].f0.length := by omega
    obtain ⟨r, hr⟩ : ∃ r, L[i].f0[j] = r := ⟨_, rfl⟩
    have hs : Pass.small r := by rw [← hr]; exact hp.2 _ (List.getElem_mem hj)
    rw [show k + (d + 1) + 1 = (k + d + 1) + 1 from rfl, spec_PassesFault.l1, Pass.rdP hi, if_pos (by omega), if_pos (by omega), if_pos (by omega), if_pos (by omega), Pass.rdR hj, hr, List.drop_eq_getElem_cons hj, hr, List.all_cons, Pass.wr j (by have := hp.1; omega), ih (j + 1) (by omega) (by omega)]
    obtain ⟨X, hX⟩ : ∃ X, (if (L[i].f0.drop (j + 1)).all Pass.ruleOk = true then spec_PassesFault.l0 k L acc ((i + 1 : Nat) : Int) else some 1) = X := ⟨_, rfl⟩
    rw [Pass.right _ 0 hs.1, Pass.right _ 1 hs.2.1, Pass.right _ 0 hs.2.2.1, Pass.right _ 0 hs.2.2.2, (Pass.points _ hs.2.2.2).2]
    simp only [Option.bind_some]
    have z : ∀ s : ByteArray, decide ((0 : Int) ≤ ((Pass.ptsOf s).length : Int)) = true := fun s => decide_eq_true (by omega)
    have o : decide ((1 : Int) ≤ ((Pass.ptsOf r.f1).length : Int)) = decide (r.f1.size ≠ 0) := decide_eq_decide.2 ⟨fun y x => by have := (Pass.pts_none r.f1).2 x; omega, fun y => by have := mt (Pass.pts_none r.f1).1 y; omega⟩
    rw [z, z, z, o, Bool.true_and, Bool.true_and, Bool.true_and]
    have e : (if r.f4 < 0 then some (1 : Int) else if r.f4 > ((Pass.ptsOf r.f3).length : Int) then some 1 else X) = if decide (0 ≤ r.f4 ∧ r.f4 ≤ ((Pass.ptsOf r.f3).length : Int)) = true then X else some 1 := by
      by_cases x : r.f4 < 0
      · rw [if_pos x, decide_eq_false (show ¬ (0 ≤ r.f4 ∧ r.f4 ≤ ((Pass.ptsOf r.f3).length : Int)) by omega), if_neg (by decide)]
      · rw [if_neg x]
        by_cases y : r.f4 > ((Pass.ptsOf r.f3).length : Int)
        · rw [if_pos y, decide_eq_false (show ¬ (0 ≤ r.f4 ∧ r.f4 ≤ ((Pass.ptsOf r.f3).length : Int)) by omega), if_neg (by decide)]
        · rw [if_neg y, decide_eq_true (show 0 ≤ r.f4 ∧ r.f4 ≤ ((Pass.ptsOf r.f3).length : Int) by omega), if_pos rfl]
    rw [hX, e]
    have hr2 : Pass.ruleOk r = (Pass.one r.f0 && (Pass.one r.f1 && (Pass.one r.f2 && (Pass.one r.f3 && (decide (r.f1.size ≠ 0) && decide (0 ≤ r.f4 ∧ r.f4 ≤ ((Pass.ptsOf r.f3).length : Int))))))) := rfl
    rw [hr2]
    have hX2 : ∀ c : Bool, (if (c && (L[i].f0.drop (j + 1)).all Pass.ruleOk) = true then spec_PassesFault.l0 k L acc ((i + 1 : Nat) : Int) else some 1) = if c = true then X else some 1 := by
      intro c
      cases c with
      | false => rfl
      | true => rw [Bool.true_and, if_pos rfl, ← hX]
    rw [hX2]
    cases Pass.one r.f0 <;> cases Pass.one r.f1 <;> cases Pass.one r.f2 <;> cases Pass.one r.f3 <;> cases decide (r.f1.size ≠ 0) <;> cases decide (0 ≤ r.f4 ∧ r.f4 ≤ ((Pass.ptsOf r.f3).length : Int)) <;> rfl
theorem Pass.specRun (L : List S106) (hL : Pass.few L) (d : Nat) : ∀ (k i : Nat) (acc : Int), i ≤ L.length → L.length - i = d → Pass.need (L.drop i) ≤ k → 0 ≤ acc → acc ≤ 100 →
    spec_PassesFault.l0 k L acc (i : Int) = some (if Pass.cum (L.drop i) acc = true then 0 else 1) := by
  induction d with
  | zero =>
    intro k i acc h1 h2 h3 h4 h5
    rw [List.drop_eq_nil_of_le (by omega)] at h3 ⊢
    unfold Pass.need at h3
    obtain ⟨k, rfl⟩ : ∃ m, k = m + 1 := ⟨k - 1, by omega⟩
    rw [spec_PassesFault.l0, if_neg (by omega)]
    rfl
  | succ d ih =>
    intro k i acc h1 h2 h3 h4 h5
    have hi : i < L.length := by omega
    have hp := hL.2 L[i] (List.getElem_mem hi)
    rw [List.drop_eq_getElem_cons hi] at h3 ⊢
    unfold Pass.need at h3
    obtain ⟨m, rfl⟩ : ∃ m, k = (m + L[i].f0.length + 1) + 1 + 1 := ⟨k - L[i].f0.length - 3, by omega⟩
    rw [spec_PassesFault.l0, if_pos (by omega), if_pos (by omega), Pass.rdP hi]
    have hj : ∀ b, spec_PassesFault.j1 ((m + L[i].f0.length + 1) + 1) L acc (i : Int) b = some (if (!b && (L[i].f0.all Pass.ruleOk && (decide (acc + (L[i].f0.length : Int) ≤ 100) && Pass.cum (L.drop (i + 1)) (acc + (L[i].f0.length : Int))))) = true then 0 else 1) := by
      intro b
      cases b with
      | true => rw [spec_PassesFault.j1, if_pos rfl]; rfl
      | false =>
        have hw : wrap64 (acc + (L[i].f0.length : Int)) = acc + (L[i].f0.length : Int) := by have := hp.1; unfold wrap64; omega
        rw [spec_PassesFault.j1, if_neg (by decide), if_pos (by omega), if_pos (by omega), Pass.rdP hi, hw]
        by_cases c : acc + (L[i].f0.length : Int) > 100
        · rw [if_pos c, decide_eq_false (show ¬ acc + (L[i].f0.length : Int) ≤ 100 by omega), Bool.false_and, Bool.and_false, Bool.and_false]; rfl
        · have q := Pass.specRules L hL i hi (acc + (L[i].f0.length : Int)) m L[i].f0.length 0 (Nat.zero_le _) rfl
          rw [if_neg c, decide_eq_true (show acc + (L[i].f0.length : Int) ≤ 100 by omega), Bool.true_and]
          rw [show ((0 : Nat) : Int) = 0 from rfl] at q
          rw [q, List.drop_zero]
          cases L[i].f0.all Pass.ruleOk with
          | false => rfl
          | true => rw [if_pos rfl, ih m (i + 1) _ (by omega) (by omega) (by omega) (by omega) (by omega)]; rfl
    have hc : Pass.cum (L[i] :: L.drop (i + 1)) acc = ((decide (0 ≤ L[i].f1 ∧ L[i].f1 ≤ 4) && L[i].f0.all Pass.ruleOk) && (decide (acc + (L[i].f0.length : Int) ≤ 100) && Pass.cum (L.drop (i + 1)) (acc + (L[i].f0.length : Int)))) := rfl
    rw [hj, hj, hc, Bool.and_assoc]
    by_cases n0 : L[i].f1 < 0
    · rw [if_pos n0, decide_eq_false (show ¬ (0 ≤ L[i].f1 ∧ L[i].f1 ≤ 4) by omega)]; rfl
    · rw [if_neg n0]
      by_cases n1 : L[i].f1 > 4
      · rw [decide_eq_true n1, decide_eq_false (show ¬ (0 ≤ L[i].f1 ∧ L[i].f1 ≤ 4) by omega)]; rfl
      · rw [decide_eq_false n1, decide_eq_true (show 0 ≤ L[i].f1 ∧ L[i].f1 ≤ 4 by omega), Bool.true_and, Bool.not_false, Bool.true_and]
theorem Pass.implRule (L : List S106) (x18 : Int) (i j : Int) (R : List S108) (n : Int) (r : S108) (hs : Pass.small r) (m : Nat) (hj : wrap64 (j + 1) = j + 1) :
    impl_PassesFault.l2 (m + 5) L x18 i R n j [r.f0, r.f1, r.f2, r.f3] 4 0 r.f0 r.f1 r.f2 r.f3 r.f4 = if Pass.ruleOk r = true then impl_PassesFault.l1 m L x18 i R n (j + 1) else some 1 := by
  have step : ∀ (q : Nat) (e : Nat) (s : ByteArray), e < 4 → rdOf ByteArray.empty [r.f0, r.f1, r.f2, r.f3] (e : Int) = s → s.size ≤ 1048576 →
      impl_PassesFault.l2 (q + 1) L x18 i R n j [r.f0, r.f1, r.f2, r.f3] 4 (e : Int) r.f0 r.f1 r.f2 r.f3 r.f4 = if Pass.one s = true then impl_PassesFault.l2 q L x18 i R n j [r.f0, r.f1, r.f2, r.f3] 4 ((e + 1 : Nat) : Int) r.f0 r.f1 r.f2 r.f3 r.f4 else some 1 := by
    intro q e s he hr hz
    have hp := Pass.pts_len s
    rw [impl_PassesFault.l2, if_pos (by omega), if_pos (by omega), if_pos (show (e : Int) < (([r.f0, r.f1, r.f2, r.f3] : List ByteArray).length : Int) by simp only [List.length_cons, List.length_nil]; omega), hr, Pass.well s hz, (Pass.points s hz).1, Pass.wr e (by omega)]
    simp only [Option.bind_some]
    unfold Pass.one
    by_cases a : (YtiabgmddnddeiaaDoorPts.encs (Pass.ptsOf s) = bytesOf s)
    · rw [decide_eq_true a, if_pos rfl, Bool.and_true]
      by_cases b : (Pass.ptsOf s).length ≤ 20
      · rw [if_neg (by omega), decide_eq_true b, if_pos rfl]
      · rw [if_pos (by omega), decide_eq_false b, if_neg (by decide)]
    · rw [decide_eq_false a, if_neg (by decide), Bool.and_false, if_neg (by decide)]
  have s0 := step (m + 4) 0 r.f0 (by omega) rfl hs.1
  have s1 := step (m + 3) 1 r.f1 (by omega) rfl hs.2.1
  have s2 := step (m + 2) 2 r.f2 (by omega) rfl hs.2.2.1
  have s3 := step (m + 1) 3 r.f3 (by omega) rfl hs.2.2.2
  rw [show m + 5 = m + 4 + 1 from rfl, show (0 : Int) = ((0 : Nat) : Int) from rfl, s0, s1, s2, s3]
  have s4 : impl_PassesFault.l2 (m + 1) L x18 i R n j [r.f0, r.f1, r.f2, r.f3] 4 ((3 + 1 : Nat) : Int) r.f0 r.f1 r.f2 r.f3 r.f4 = if (decide (r.f1.size ≠ 0) && decide (0 ≤ r.f4 ∧ r.f4 ≤ ((Pass.ptsOf r.f3).length : Int))) = true then impl_PassesFault.l1 m L x18 i R n (j + 1) else some 1 := by
    rw [impl_PassesFault.l2, if_neg (by omega), (Pass.points _ hs.2.2.2).1, hj]
    simp only [Option.bind_some]
    have hn : (r.f1.toList = ([] : List UInt8)) ↔ r.f1.size = 0 := by
      rw [ByteArray.toList_eq, ← data_length]
      exact List.length_eq_zero_iff.symm
    by_cases a : r.f1.size = 0
    · rw [if_pos (hn.2 a), decide_eq_false (fun y => y a), Bool.false_and, if_neg (by decide)]
    · rw [if_neg (fun y => a (hn.1 y)), decide_eq_true a, Bool.true_and]
      by_cases b : r.f4 < 0
      · rw [if_pos b, decide_eq_false (show ¬ (0 ≤ r.f4 ∧ r.f4 ≤ ((Pass.ptsOf r.f3).length : Int)) by omega), if_neg (by decide)]
      · rw [if_neg b]
        by_cases c : r.f4 > ((Pass.ptsOf r.f3).length : Int)
        · rw [if_pos c, decide_eq_false (show ¬ (0 ≤ r.f4 ∧ r.f4 ≤ ((Pass.ptsOf r.f3).length : Int)) by omega), if_neg (by decide)]
        · rw [if_neg c, decide_eq_true (show 0 ≤ r.f4 ∧ r.f4 ≤ ((Pass.ptsOf r.f3).length : Int) by omega), if_pos rfl]
  rw [s4]
  unfold Pass.ruleOk
  cases Pass.one r.f0 <;> cases Pass.one r.f1 <;> cases Pass.one r.f2 <;> cases Pass.one r.f3 <;> simp
theorem Pass.implRules (L : List S106) (hL : Pass.few L) (x18 : Int) (i : Nat) (hi : i < L.length) (k : Nat) (d : Nat) : ∀ (j : Nat), j ≤ L[i].f0.length → L[i].f0.length - j = d →
    impl_PassesFault.l1 (k + 6 * d + 1) L x18 (i : Int) L[i].f0 (L[i].f0.length : Int) (j : Int) = if (L[i].f0.drop j).all Pass.ruleOk = true then impl_PassesFault.l0 k L x18 ((i + 1 : Nat) : Int) else some 1 := by
  have hp := hL.2 L[i] (List.getElem_mem hi)
  induction d with
  | zero =>
    intro j h1 h2
    rw [impl_PassesFault.l1, if_neg (by omega), List.drop_eq_nil_of_le (by omega), Pass.wr i (by have := hL.1; omega)]
    rfl
  | succ d ih =>
    intro j h1 h2
    have hj : j < L[i].f0.length := by omega
    have hs : Pass.small L[i].f0[j] := hp.2 _ (List.getElem_mem hj)
    have hw := Pass.wr j (by have := hp.1; omega)
    rw [show k + 6 * (d + 1) + 1 = (k + 6 * d + 1 + 5) + 1 by omega, impl_PassesFault.l1, if_pos (by omega), if_pos (by omega), if_pos (by omega), Pass.rdR hj]
    have q := Pass.implRule L x18 (i : Int) (j : Int) L[i].f0 (L[i].f0.length : Int) L[i].f0[j] hs (k + 6 * d + 1) (by rw [hw]; omega)
    refine Eq.trans (show _ = impl_PassesFault.l2 (k + 6 * d + 1 + 5) L x18 (i : Int) L[i].f0 (L[i].f0.length : Int) (j : Int) [L[i].f0[j].f0, L[i].f0[j].f1, L[i].f0[j].f2, L[i].f0[j].f3] 4 0 L[i].f0[j].f0 L[i].f0[j].f1 L[i].f0[j].f2 L[i].f0[j].f3 L[i].f0[j].f4 from rfl) (q.trans ?_)
    rw [List.drop_eq_getElem_cons hj, List.all_cons]
    cases Pass.ruleOk L[i].f0[j] with
    | false => rfl
    | true =>
      rw [if_pos rfl, Bool.true_and]
      exact ih (j + 1) (by omega) (by omega)
theorem Pass.implRun (L : List S106) (hL : Pass.few L) (d : Nat) : ∀ (k i : Nat), i ≤ L.length → L.length - i = d → Pass.need (L.drop i) ≤ k →
    impl_PassesFault.l0 k L (L.length : Int) (i : Int) = some (if (L.drop i).all Pass.ok = true then 0 else 1) := by
  induction d with
  | zero =>
    intro k i h1 h2 h3
    rw [List.drop_eq_nil_of_le (by omega)] at h3 ⊢
    unfold Pass.need at h3
    obtain ⟨k, rfl⟩ : ∃ m, k = m + 1 := ⟨k - 1, by omega⟩
    rw [impl_PassesFault.l0, if_neg (by omega)]
    rfl
  | succ d ih =>
    intro k i h1 h2 h3
    have hi : i < L.length := by omega
    rw [List.drop_eq_getElem_cons hi] at h3 ⊢
    unfold Pass.need at h3
    obtain ⟨m, rfl⟩ : ∃ m, k = (m + 6 * L[i].f0.length + 1) + 1 + 1 := ⟨k - 6 * L[i].f0.length - 3, by omega⟩
    rw [impl_PassesFault.l0, if_pos (by omega), if_pos (by omega), if_pos (by omega), Pass.rdP hi, List.all_cons]
    have hj : ∀ b, impl_PassesFault.j2 ((m + 6 * L[i].f0.length + 1) + 1) L (L.length : Int) (i : Int) b L[i].f0 L[i].f1 = some (if (!b && (L[i].f0.all Pass.ruleOk && (L.drop (i + 1)).all Pass.ok)) = true then 0 else 1) := by
      intro b
      cases b with
      | true => rw [impl_PassesFault.j2, if_pos rfl]; rfl
      | false =>
        have q := Pass.implRules L hL (L.length : Int) i hi m L[i].f0.length 0 (Nat.zero_le _) rfl
        rw [show ((0 : Nat) : Int) = 0 from rfl, List.drop_zero] at q
        rw [impl_PassesFault.j2, if_neg (by decide), q]
        cases L[i].f0.all Pass.ruleOk with
        | false => rfl
        | true => rw [if_pos rfl, ih m (i + 1) (by omega) (by omega) (by omega)]; rfl
    have hc : Pass.ok L[i] = (decide (0 ≤ L[i].f1 ∧ L[i].f1 ≤ 4) && L[i].f0.all Pass.ruleOk) := rfl
    rw [hj, hj, hc, Bool.and_assoc]
    by_cases n0 : L[i].f1 < 0
    · rw [if_pos n0, decide_eq_false (show ¬ (0 ≤ L[i].f1 ∧ L[i].f1 ≤ 4) by omega)]; rfl
    · rw [if_neg n0]
      by_cases n1 : L[i].f1 > 4
      · rw [decide_eq_true n1, decide_eq_false (show ¬ (0 ≤ L[i].f1 ∧ L[i].f1 ≤ 4) by omega)]; rfl
      · rw [decide_eq_false n1, decide_eq_true (show 0 ≤ L[i].f1 ∧ L[i].f1 ≤ 4 by omega), Bool.true_and, Bool.not_false, Bool.true_and]
theorem Pass.rules (L : List S106) (hL : Pass.few L) (d : Nat) : ∀ (k i : Nat) (acc : Int), i ≤ L.length → L.length - i = d → d < k → 0 ≤ acc → acc ≤ (i : Int) * 1048576 →
    impl_rulesOf.l0 k acc L (L.length : Int) (i : Int) = some (acc + (Pass.total (L.drop i) : Int)) := by
  induction d with
  | zero =>
    intro k i acc h1 h2 h3 h4 h5
    obtain ⟨k, rfl⟩ : ∃ m, k = m + 1 := ⟨k - 1, by omega⟩
    rw [impl_rulesOf.l0, if_neg (by omega), List.drop_eq_nil_of_le (by omega)]
    show some acc = some (acc + ((0 : Nat) : Int))
    congr 1; omega
  | succ d ih =>
    intro k i acc h1 h2 h3 h4 h5
    obtain ⟨k, rfl⟩ : ∃ m, k = m + 1 := ⟨k - 1, by omega⟩
    have hi : i < L.length := by omega
    have hp := (hL.2 L[i] (List.getElem_mem hi)).1
    have hl := hL.1
    have hw : wrap64 (acc + (L[i].f0.length : Int)) = acc + (L[i].f0.length : Int) := by unfold wrap64; omega
    rw [impl_rulesOf.l0, if_pos (by omega), if_pos (by omega), if_pos (by omega), Pass.rdP hi, hw, Pass.wr i (by omega), ih k (i + 1) _ (by omega) (by omega) (by omega) (by omega) (by omega), List.drop_eq_getElem_cons hi]
    show some (acc + (L[i].f0.length : Int) + (Pass.total (L.drop (i + 1)) : Int)) = some (acc + ((L[i].f0.length + Pass.total (L.drop (i + 1)) : Nat) : Int))
    congr 1; omega
theorem Pass.oneSize {s : ByteArray} (h : Pass.one s = true) : (Pass.ptsOf s).length ≤ 20 ∧ s.size ≤ 80 := by
  unfold Pass.one at h
  obtain ⟨h1, h2⟩ := Bool.and_eq_true_iff.1 h
  have a := of_decide_eq_true h1
  have b := of_decide_eq_true h2
  have c := (YtiabgmddnddeiaaDoorPts.encs_length (Pass.ptsOf s)).2
  rw [b, bytesOf_length] at c
  exact ⟨a, by omega⟩
theorem Pass.ruleFits {r : S108} (h : Pass.ruleOk r = true) : impl_ShowPasses.okR r := by
  unfold Pass.ruleOk at h
  obtain ⟨h0, h⟩ := Bool.and_eq_true_iff.1 h
  obtain ⟨h1, h⟩ := Bool.and_eq_true_iff.1 h
  obtain ⟨h2, h⟩ := Bool.and_eq_true_iff.1 h
  obtain ⟨h3, h⟩ := Bool.and_eq_true_iff.1 h
  obtain ⟨_, h⟩ := Bool.and_eq_true_iff.1 h
  have h4 := of_decide_eq_true h
  have a0 := Pass.oneSize h0
  have a1 := Pass.oneSize h1
  have a2 := Pass.oneSize h2
  have a3 := Pass.oneSize h3
  exact ⟨by omega, by omega, by omega, by omega, by omega⟩
theorem Pass.totalAt : ∀ (L : List S106) (p : S106), p ∈ L → p.f0.length ≤ Pass.total L
  | [], p, h => by cases h
  | q :: t, p, h => by
    unfold Pass.total
    rcases List.mem_cons.1 h with rfl | h
    · omega
    · have := Pass.totalAt t p h; omega
theorem Pass.allFits {L : List S106} (h1 : L.length ≤ 10) (h2 : L.all Pass.ok = true) (h3 : Pass.total L ≤ 100) : impl_ShowPasses.fits L := by
  refine ⟨by omega, fun p hp => ?_⟩
  have q := List.all_eq_true.1 h2 p hp
  unfold Pass.ok at q
  obtain ⟨q1, q2⟩ := Bool.and_eq_true_iff.1 q
  have t := Pass.totalAt L p hp
  exact ⟨of_decide_eq_true q1, by omega, fun r hr => Pass.ruleFits (List.all_eq_true.1 q2 r hr)⟩
theorem Pass.both (L : List S106) (hL : Pass.few L) (k : Nat) (hk : Pass.need L + L.length + 2 ≤ k) : ∃ r, spec_PassesFault.f k L = some r ∧ impl_PassesFault.f k L = some r ∧ (r = 0 → impl_ShowPasses.fits L) := by
  obtain ⟨k, rfl⟩ : ∃ m, k = m + 1 := ⟨k - 1, by omega⟩
  unfold spec_PassesFault.f impl_PassesFault.f
  by_cases c : (L.length : Int) > 10
  · rw [if_pos c, if_pos c, impl_PassesFault.j0, if_pos rfl]; exact ⟨_, rfl, rfl, fun z => absurd z (by decide)⟩
  · rw [if_neg c, if_neg c]
    have s := Pass.specRun L hL L.length (k + 1) 0 0 (Nat.zero_le _) rfl (by rw [List.drop_zero]; omega) (by omega) (by omega)
    have m := Pass.implRun L hL L.length k 0 (Nat.zero_le _) rfl (by rw [List.drop_zero]; omega)
    have t := Pass.rules L hL L.length (k + 1) 0 0 (Nat.zero_le _) rfl (by omega) (by omega) (by omega)
    rw [show ((0 : Nat) : Int) = 0 from rfl, List.drop_zero] at s m t
    rw [s, Pass.cum_eq L 0 (by omega)]
    unfold impl_rulesOf.f
    rw [t]
    simp only [Option.bind_some]
    refine ⟨_, rfl, ?_, ?_⟩
    · rw [impl_PassesFault.j0]
      by_cases g : 0 + (Pass.total L : Int) > 100
      · rw [if_pos (decide_eq_true g), decide_eq_false (show ¬ 0 + (Pass.total L : Int) ≤ 100 by omega), Bool.and_false]; rfl
      · rw [if_neg (by simpa using g), m, decide_eq_true (show 0 + (Pass.total L : Int) ≤ 100 by omega), Bool.and_true]
    · intro z
      by_cases g : (L.all Pass.ok && decide (0 + (Pass.total L : Int) ≤ 100)) = true
      · obtain ⟨g1, g2⟩ := Bool.and_eq_true_iff.1 g
        have := of_decide_eq_true g2
        exact Pass.allFits (by omega) g1 (by omega)
      · rw [if_neg g] at z; exact absurd z (by decide)
/-- from some number of rounds on the answer stands -/
def Pass.Ev (f : Nat → Option ByteArray) (r : Option ByteArray) : Prop := ∃ K, ∀ k, K ≤ k → f k = r
theorem Pass.Ev.step {f g : Nat → Option ByteArray} {r : Option ByteArray} (h : Pass.Ev g r) (e : ∀ k, f (k + 1) = g k) : Pass.Ev f r := by
  obtain ⟨K, hK⟩ := h
  refine ⟨K + 1, fun k hk => ?_⟩
  obtain ⟨m, rfl⟩ : ∃ m, k = m + 1 := ⟨k - 1, by omega⟩
  rw [e]
  exact hK m (by omega)
theorem Pass.sz (a b : List Int) (n : Nat) (h1 : a.length ≤ 100000000000) (h2 : b.length ≤ 100000000) : (strOfNums a).size + (strOfNums b).size ≤ 9223372036854775807 := by
  rw [strOfNums_size, strOfNums_size]; omega
theorem Pass.szn (a : List Int) (n : Nat) (h1 : a.length ≤ 100000000000) (h2 : n ≤ 100000000) : (strOfNums a).size + n ≤ 9223372036854775807 := by
  rw [strOfNums_size]; omega
theorem Pass.app (a b : List Int) (s : ByteArray) (h : s = strOfNums b) : strOfNums a ++ s = strOfNums (a ++ b) := by rw [h, nums_app]
theorem Pass.bar0 : YtiabgmddnddeiaaDoorShp.bars 0 = [] := rfl
theorem Pass.bar1 : YtiabgmddnddeiaaDoorShp.bars ((0 + 1 : Nat) : Int) = [32] ++ [124] := rfl
theorem Pass.barS {q : Nat} (h : 0 < q) : YtiabgmddnddeiaaDoorShp.bars ((q + 1 : Nat) : Int) = YtiabgmddnddeiaaDoorShp.bars (q : Int) ++ [124] := by
  unfold YtiabgmddnddeiaaDoorShp.bars
  rw [if_pos (by omega), if_pos (by omega), Int.toNat_natCast, Int.toNat_natCast, List.replicate_succ']
  rfl
theorem Pass.barN (n : Int) : YtiabgmddnddeiaaDoorShp.bars ((n.toNat : Nat) : Int) = YtiabgmddnddeiaaDoorShp.bars n := by
  by_cases h : 0 ≤ n
  · rw [Int.toNat_of_nonneg h]
  · unfold YtiabgmddnddeiaaDoorShp.bars
    rw [if_neg (by omega), if_neg (by omega)]
theorem Pass.barLen (n : Int) (h : n ≤ 1000) : (YtiabgmddnddeiaaDoorShp.bars n).length ≤ 1001 := by
  unfold YtiabgmddnddeiaaDoorShp.bars
  split
  · rw [List.length_cons, List.length_replicate]; omega
  · exact Nat.zero_le _
theorem Pass.barRun (L : List S106) (X : List Int) (hX : X.length ≤ 50000000000) (i j n : Int) (hn : n ≤ 1000) (a b c e : ByteArray) (R : Option ByteArray)
    (h : Pass.Ev (fun k => spec_ShowPasses.l1 k L (strOfNums (X ++ YtiabgmddnddeiaaDoorShp.bars n ++ [10])) i (wrap64 (j + 1))) R) (d : Nat) :
    ∀ q : Nat, q ≤ n.toNat → n.toNat - q = d → Pass.Ev (fun k => spec_ShowPasses.l2 k L (strOfNums (X ++ YtiabgmddnddeiaaDoorShp.bars (q : Int))) i j (q : Int) a b c e n) R := by
  induction d with
  | zero =>
    intro q h1 h2
    have hq : q = n.toNat := by omega
    have hb := Pass.barLen n hn
    refine h.step fun k => ?_
    have ht : ¬ ((q : Nat) : Int) < n := by omega
    have z := Pass.szn (X ++ YtiabgmddnddeiaaDoorShp.bars n) 1 (by rw [List.length_append]; omega) (by decide)
    have e2 : (strOfNums (X ++ YtiabgmddnddeiaaDoorShp.bars n)) ++ (⟨#[10]⟩ : ByteArray) = strOfNums (X ++ YtiabgmddnddeiaaDoorShp.bars n ++ [10]) := Pass.app _ _ _ rfl
    rw [spec_ShowPasses.l2, if_neg ht, hq, Pass.barN, if_pos z, e2]
  | succ d ih =>
    intro q h1 h2
    refine (ih (q + 1) (by omega) (by omega)).step fun k => ?_
    have ht : ((q : Nat) : Int) < n := by omega
    have hw := Pass.wr q (by omega)
    rw [spec_ShowPasses.l2, if_pos ht, hw]
    by_cases g : q = 0
    · subst g
      have z1 := Pass.szn X 1 (by omega) (by decide)
      have z2 := Pass.szn (X ++ [32]) 1 (by rw [List.length_append]; simp only [List.length_cons, List.length_nil]; omega) (by decide)
      have e1 : strOfNums X ++ (⟨#[32]⟩ : ByteArray) = strOfNums (X ++ [32]) := Pass.app _ _ _ rfl
      have e2 : strOfNums (X ++ [32]) ++ (⟨#[124]⟩ : ByteArray) = strOfNums (X ++ ([32] ++ [124])) := by rw [← List.append_assoc]; exact Pass.app _ _ _ rfl
      rw [show ((0 : Nat) : Int) = 0 from rfl, Pass.bar0, List.append_nil, if_pos rfl, if_pos z1, e1, if_pos z2, e2, Pass.bar1]
    · have hb := Pass.barLen (q : Int) (by omega)
      have z := Pass.szn (X ++ YtiabgmddnddeiaaDoorShp.bars (q : Int)) 1 (by rw [List.length_append]; omega) (by decide)
      have e2 : strOfNums (X ++ YtiabgmddnddeiaaDoorShp.bars (q : Int)) ++ (⟨#[124]⟩ : ByteArray) = strOfNums (X ++ (YtiabgmddnddeiaaDoorShp.bars (q : Int) ++ [124])) := by rw [← List.append_assoc]; exact Pass.app _ _ _ rfl
      have g' : ¬ ((q : Nat) : Int) = 0 := by omega
      rw [if_neg g', if_pos z, e2, Pass.barS (by omega)]
theorem Pass.showOf {s : ByteArray} (h : s.size ≤ 1000) : W_spec_l13Show.f s = some (strOfNums (YtiabgmddnddeiaaDoorShp.esc (bytesOf s))) := by
  unfold W_spec_l13Show.f
  rw [if_pos (by omega)]
theorem Pass.escLen {s : ByteArray} (h : s.size ≤ 1000) : (YtiabgmddnddeiaaDoorShp.esc (bytesOf s)).length ≤ 2000 := by
  have := YtiabgmddnddeiaaDoorShp.esc_len (bytesOf s)
  rw [bytesOf_length] at this
  omega
theorem Pass.lineRun (L : List S106) (i : Nat) (hi : i < L.length) (X : List Int) (hX : X.length ≤ 40000000000) (j : Nat) (hj : j < L[i].f0.length) (hr : impl_ShowPasses.okR L[i].f0[j]) (hl : L[i].f0.length ≤ 1000) (R : Option ByteArray)
    (h : Pass.Ev (fun k => spec_ShowPasses.l1 k L (strOfNums (X ++ impl_ShowPasses.line L[i].f0[j])) (i : Int) ((j + 1 : Nat) : Int)) R) :
    Pass.Ev (fun k => spec_ShowPasses.l1 k L (strOfNums X) (i : Int) (j : Int)) R := by
  obtain ⟨r, er⟩ : ∃ r, L[i].f0[j] = r := ⟨_, rfl⟩
  rw [er] at hr h
  obtain ⟨r0, r1, r2, r3, r4⟩ := hr
  have l0 := Pass.escLen r0
  have l1 := Pass.escLen r1
  have l2 := Pass.escLen r2
  have l3 := Pass.escLen r3
  obtain ⟨a, ea⟩ : ∃ a, YtiabgmddnddeiaaDoorShp.esc (bytesOf r.f0) = a := ⟨_, rfl⟩
  obtain ⟨b, eb⟩ : ∃ a, YtiabgmddnddeiaaDoorShp.esc (bytesOf r.f1) = a := ⟨_, rfl⟩
  obtain ⟨c, ec⟩ : ∃ a, YtiabgmddnddeiaaDoorShp.esc (bytesOf r.f2) = a := ⟨_, rfl⟩
  obtain ⟨d, ed⟩ : ∃ a, YtiabgmddnddeiaaDoorShp.esc (bytesOf r.f3) = a := ⟨_, rfl⟩
  have el : X ++ impl_ShowPasses.line r = X ++ a ++ [91] ++ b ++ [93] ++ c ++ [32, 62, 32] ++ d ++ YtiabgmddnddeiaaDoorShp.bars r.f4 ++ [10] := by
    unfold impl_ShowPasses.line YtiabgmddnddeiaaDoorShp.oneL
    rw [ea, eb, ec, ed]
    simp only [List.append_assoc]
  rw [el] at h
  rw [ea] at l0
  rw [eb] at l1
  rw [ec] at l2
  rw [ed] at l3
  have t1 : (([91] : List Int)).length = 1 := rfl
  have t2 : (([93] : List Int)).length = 1 := rfl
  have t3 : (([32, 62, 32] : List Int)).length = 3 := rfl
  have i0 : (0 : Int) ≤ (i : Int) := by omega
  have i1 : (i : Int) < (L.length : Int) := by omega
  have j0 : (0 : Int) ≤ (j : Int) := by omega
  have j1 : (j : Int) < (L[i].f0.length : Int) := by omega
  have z1 := Pass.sz X a 0 (by omega) (by omega)
  have z2 := Pass.szn (X ++ a) 1 (by simp only [List.length_append]; omega) (by decide)
  have z3 := Pass.sz (X ++ a ++ [91]) b 0 (by simp only [List.length_append, t1]; omega) (by omega)
  have z4 := Pass.szn (X ++ a ++ [91] ++ b) 1 (by simp only [List.length_append, t1]; omega) (by decide)
  have z5 := Pass.sz (X ++ a ++ [91] ++ b ++ [93]) c 0 (by simp only [List.length_append, t1, t2]; omega) (by omega)
  have z6 := Pass.szn (X ++ a ++ [91] ++ b ++ [93] ++ c) 3 (by simp only [List.length_append, t1, t2]; omega) (by decide)
  have z7 := Pass.sz (X ++ a ++ [91] ++ b ++ [93] ++ c ++ [32, 62, 32]) d 0 (by simp only [List.length_append, t1, t2, t3]; omega) (by omega)
  have lX : (X ++ a ++ [91] ++ b ++ [93] ++ c ++ [32, 62, 32] ++ d).length ≤ 50000000000 := by simp only [List.length_append, t1, t2, t3]; omega
  have hw := Pass.wr j (by omega)
  have q := Pass.barRun L (X ++ a ++ [91] ++ b ++ [93] ++ c ++ [32, 62, 32] ++ d) lX (i : Int) (j : Int) r.f4 r4 r.f0 r.f1 r.f2 r.f3 R (by rw [hw]; exact h) r.f4.toNat 0 (Nat.zero_le _) rfl
  rw [show ((0 : Nat) : Int) = 0 from rfl, Pass.bar0, List.append_nil] at q
  refine q.step fun k => ?_
  rw [spec_ShowPasses.l1, if_pos i0, if_pos i1, Pass.rdP hi, if_pos j1, if_pos j0, Pass.rdR hj, er, Pass.showOf r0, Pass.showOf r1, Pass.showOf r2, Pass.showOf r3, ea, eb, ec, ed]
  rw [Option.bind_some, if_pos z1, nums_app, Pass.app _ [91] (⟨#[91]⟩ : ByteArray) rfl, if_pos z2]
  rw [Option.bind_some, if_pos z3, nums_app, Pass.app _ [93] (⟨#[93]⟩ : ByteArray) rfl, if_pos z4]
  rw [Option.bind_some, if_pos z5, nums_app, Pass.app _ [32, 62, 32] (⟨#[32, 62, 32]⟩ : ByteArray) rfl, if_pos z6]
  rw [Option.bind_some, if_pos z7, nums_app]
theorem Pass.passRun (L : List S106) (i : Nat) (hi : i < L.length) (X : List Int) (hX : X.length ≤ 20000000000) (hr : ∀ r ∈ L[i].f0, impl_ShowPasses.okR r) (hl : L[i].f0.length ≤ 1000) (R : Option ByteArray)
    (h : Pass.Ev (fun k => spec_ShowPasses.l0 k L (strOfNums (X ++ impl_ShowPasses.pass L[i])) ((i + 1 : Nat) : Int)) R) (hLs : L.length ≤ 1000) (d : Nat) : ∀ j : Nat, j ≤ L[i].f0.length → L[i].f0.length - j = d →
    Pass.Ev (fun k => spec_ShowPasses.l1 k L (strOfNums (X ++ (impl_ShowPasses.head L[i] ++ (L[i].f0.take j).flatMap impl_ShowPasses.line))) (i : Int) (j : Int)) R := by
  induction d with
  | zero =>
    intro j h1 h2
    refine h.step fun k => ?_
    have i0 : (0 : Int) ≤ (i : Int) := by omega
    have i1 : (i : Int) < (L.length : Int) := by omega
    have j1 : ¬ (j : Int) < (L[i].f0.length : Int) := by omega
    have hw := Pass.wr i (by omega)
    rw [spec_ShowPasses.l1, if_pos i0, if_pos i1, Pass.rdP hi, if_neg j1, hw, List.take_of_length_le (by omega)]
    rfl
  | succ d ih =>
    intro j h1 h2
    have hj : j < L[i].f0.length := by omega
    have q := ih (j + 1) (by omega) (by omega)
    have hp := part_len hl hr j
    refine Pass.lineRun L i hi _ (by rw [List.length_append]; omega) j hj (hr _ (List.getElem_mem hj)) hl R ?_
    rw [List.take_succ_eq_append_getElem hj, List.flatMap_append] at q
    rw [show ([L[i].f0[j]] : List S108).flatMap impl_ShowPasses.line = impl_ShowPasses.line L[i].f0[j] from by simp, ← List.append_assoc, ← List.append_assoc] at q
    rw [← List.append_assoc]
    exact q
theorem Pass.showRun (L : List S106) (hf : impl_ShowPasses.fits L) (d : Nat) : ∀ i : Nat, i ≤ L.length → L.length - i = d →
    Pass.Ev (fun k => spec_ShowPasses.l0 k L (strOfNums (impl_ShowPasses.all (L.take i))) (i : Int)) (impl_ShowPasses.g L) := by
  induction d with
  | zero =>
    intro i h1 h2
    refine ⟨1, fun k hk => ?_⟩
    obtain ⟨m, rfl⟩ : ∃ m, k = m + 1 := ⟨k - 1, by omega⟩
    show spec_ShowPasses.l0 (m + 1) L (strOfNums (impl_ShowPasses.all (L.take i))) (i : Int) = _
    have i1 : ¬ (i : Int) < (L.length : Int) := by omega
    rw [spec_ShowPasses.l0, if_neg i1, List.take_of_length_le (by omega)]
    unfold impl_ShowPasses.g
    rw [if_pos ((impl_ShowPasses.fitB_iff L).2 hf)]
    unfold impl_short.f impl_long.f spec_l01Small.f
    rw [Option.bind_some]
    by_cases c : ((strOfNums (impl_ShowPasses.all L)).size : Int) > 65536
    · rw [if_pos c, decide_eq_true c, if_pos rfl]; rfl
    · rw [if_neg c, decide_eq_false c, if_neg (by decide)]; rfl
  | succ d ih =>
    intro i h1 h2
    have hi : i < L.length := by omega
    obtain ⟨⟨n0, n1⟩, hl, hr⟩ := hf.2 _ (List.getElem_mem hi)
    have hls := hf.1
    have hX := all_len hf i
    have q := ih (i + 1) (by omega) (by omega)
    have ea : impl_ShowPasses.all (L.take (i + 1)) = impl_ShowPasses.all (L.take i) ++ impl_ShowPasses.pass L[i] := by
      unfold impl_ShowPasses.all
      rw [List.take_succ_eq_append_getElem hi, List.flatMap_append]
      simp
    rw [ea] at q
    have p := Pass.passRun L i hi (impl_ShowPasses.all (L.take i)) (by omega) hr hl _ q hls L[i].f0.length 0 (Nat.zero_le _) rfl
    rw [List.take_zero, List.flatMap_nil, List.append_nil, show ((0 : Nat) : Int) = 0 from rfl] at p
    refine p.step fun k => ?_
    obtain ⟨X, eX⟩ : ∃ X, impl_ShowPasses.all (L.take i) = X := ⟨_, rfl⟩
    rw [eX] at hX ⊢
    have i0 : (0 : Int) ≤ (i : Int) := by omega
    have i1 : (i : Int) < (L.length : Int) := by omega
    have hn := nameL_len L[i].f1
    have t1 : (([58] : List Int)).length = 1 := rfl
    have z1 := Pass.szn X 1 (by omega) (by decide)
    have z2 := Pass.sz (X ++ [58]) (YtiabgmddnddeiaaDoorShp.nameL L[i].f1) 0 (by simp only [List.length_append, t1]; omega) (by omega)
    have z3 := Pass.szn (X ++ [58] ++ YtiabgmddnddeiaaDoorShp.nameL L[i].f1) 1 (by simp only [List.length_append, t1]; omega) (by decide)
    have hh : X ++ impl_ShowPasses.head L[i] = X ++ [58] ++ YtiabgmddnddeiaaDoorShp.nameL L[i].f1 ++ [10] := by
      unfold impl_ShowPasses.head
      simp only [List.append_assoc]
    rw [spec_ShowPasses.l0, if_pos i1, if_pos z1, if_pos i0, Pass.rdP hi, spec_l13Word.eq n0 n1, Option.bind_some, Pass.app _ [58] (⟨#[58]⟩ : ByteArray) rfl, if_pos z2, nums_app, if_pos z3, Pass.app _ [10] (⟨#[10]⟩ : ByteArray) rfl, hh]
theorem Pass.gSome {L : List S106} (hf : impl_ShowPasses.fits L) : ∃ r, impl_ShowPasses.g L = some r := by
  unfold impl_ShowPasses.g
  rw [if_pos ((impl_ShowPasses.fitB_iff L).2 hf)]
  unfold impl_short.f impl_long.f
  rw [Option.bind_some]
  split
  · exact ⟨_, rfl⟩
  · exact ⟨_, rfl⟩
def Pass.cv (x : S180) : S108 := ⟨x.f0, x.f1, x.f2, x.f3, x.f4⟩
def Pass.cvp (p : S102) : S106 := ⟨p.f0.map Pass.cv, p.f1⟩
theorem Pass.rdA {L : List S102} {i : Nat} (h : i < L.length) : rd_T102 L (i : Int) = L[i] := by simp [rd_T102, List.getD, h]
theorem Pass.rdB {L : List S180} {i : Nat} (h : i < L.length) : rd_T180 L (i : Int) = L[i] := by simp [rd_T180, List.getD, h]
def Pass.big (x : S180) : Prop := x.f0.size ≤ 9223372036854775807 ∧ x.f1.size ≤ 9223372036854775807 ∧ x.f2.size ≤ 9223372036854775807 ∧ x.f3.size ≤ 9223372036854775807
theorem Pass.sub (a : Int) (n : Nat) (h0 : 0 ≤ a) (h1 : a ≤ 1048576) (hn : n ≤ 9223372036854775807) : wrap64 (a - (n : Int)) = a - (n : Int) := by unfold wrap64; omega
theorem Pass.szRule (x : S180) (hx : Pass.big x) (a : Int) (h0 : 0 ≤ a) (h1 : a ≤ 1048576) : ∃ r, laws_szWriteRule.f x.f0 x.f1 x.f2 x.f3 x.f4 a = some r ∧ r ≤ 1048576 ∧ (0 ≤ r → Pass.small (Pass.cv x)) := by
  unfold laws_szWriteRule.f
  rw [Pass.sub a _ h0 h1 hx.1]
  by_cases c0 : a - (x.f0.size : Int) < 0
  · rw [if_pos c0]; exact ⟨-1, rfl, by omega, fun z => absurd z (by omega)⟩
  · rw [if_neg c0, Pass.sub _ _ (by omega) (by omega) hx.2.1]
    by_cases c1 : a - (x.f0.size : Int) - (x.f1.size : Int) < 0
    · rw [if_pos c1]; exact ⟨-1, rfl, by omega, fun z => absurd z (by omega)⟩
    · rw [if_neg c1, Pass.sub _ _ (by omega) (by omega) hx.2.2.1]
      by_cases c2 : a - (x.f0.size : Int) - (x.f1.size : Int) - (x.f2.size : Int) < 0
      · rw [if_pos c2]; exact ⟨-1, rfl, by omega, fun z => absurd z (by omega)⟩
      · rw [if_neg c2, Pass.sub _ _ (by omega) (by omega) hx.2.2.2]
        by_cases c3 : a - (x.f0.size : Int) - (x.f1.size : Int) - (x.f2.size : Int) - (x.f3.size : Int) < 0
        · rw [if_pos c3]; exact ⟨-1, rfl, by omega, fun z => absurd z (by omega)⟩
        · rw [if_neg c3]
          refine ⟨_, rfl, by omega, fun _ => ⟨?_, ?_, ?_, ?_⟩⟩
          · show x.f0.size ≤ 1048576; omega
          · show x.f1.size ≤ 1048576; omega
          · show x.f2.size ≤ 1048576; omega
          · show x.f3.size ≤ 1048576; omega
theorem Pass.szRules (R : List S180) (hR : ∀ x ∈ R, Pass.big x) (hl : R.length ≤ 1048576) (d : Nat) : ∀ (k i : Nat) (a : Int), i ≤ R.length → R.length - i = d → d < k → 0 ≤ a → a ≤ 1048576 →
    ∃ r, laws_szWriteRuleS.l0 k R a (i : Int) = some r ∧ r ≤ 1048576 ∧ (0 ≤ r → ∀ x ∈ R.drop i, Pass.small (Pass.cv x)) := by
  induction d with
  | zero =>
    intro k i a h1 h2 h3 h4 h5
    obtain ⟨k, rfl⟩ : ∃ m, k = m + 1 := ⟨k - 1, by omega⟩
    rw [laws_szWriteRuleS.l0, if_neg (by omega), List.drop_eq_nil_of_le (by omega)]
    exact ⟨a, rfl, h5, fun _ x hx => by cases hx⟩
  | succ d ih =>
    intro k i a h1 h2 h3 h4 h5
    obtain ⟨k, rfl⟩ : ∃ m, k = m + 1 := ⟨k - 1, by omega⟩
    have hi : i < R.length := by omega
    obtain ⟨t, e, ht, hs⟩ := Pass.szRule R[i] (hR _ (List.getElem_mem hi)) a h4 h5
    rw [laws_szWriteRuleS.l0, if_pos (by omega), if_pos (by omega), Pass.rdB hi, e, Pass.wr i (by omega)]
    simp only [Option.bind_some]
    by_cases c : t < 0
    · rw [if_pos c]; exact ⟨-1, rfl, by omega, fun z => absurd z (by omega)⟩
    · rw [if_neg c]
      obtain ⟨r, e2, hr, hq⟩ := ih k (i + 1) t (by omega) (by omega) (by omega) (by omega) ht
      refine ⟨r, e2, hr, fun z x hx => ?_⟩
      rw [List.drop_eq_getElem_cons hi] at hx
      rcases List.mem_cons.1 hx with rfl | hx
      · exact hs (by omega)
      · exact hq z x hx
theorem Pass.szPass (R : List S180) (n : Int) (hR : ∀ x ∈ R, Pass.big x) (hl : R.length ≤ 9223372036854775807) (k : Nat) (hk : R.length < k) (a : Int) (h0 : 0 ≤ a) (h1 : a ≤ 1048576) :
    ∃ r, laws_szPass.f k R n a = some r ∧ r ≤ 1048576 ∧ (0 ≤ r → R.length ≤ 1048576 ∧ ∀ x ∈ R, Pass.small (Pass.cv x)) := by
  unfold laws_szPass.f laws_szWriteRuleS.f
  rw [Pass.sub a _ h0 h1 hl]
  by_cases c : a - (R.length : Int) < 0
  · rw [if_pos c]; exact ⟨-1, rfl, by omega, fun z => absurd z (by omega)⟩
  · rw [if_neg c]
    obtain ⟨r, e, hr, hq⟩ := Pass.szRules R hR (by omega) R.length k 0 (a - (R.length : Int)) (Nat.zero_le _) rfl hk (by omega) (by omega)
    rw [show ((0 : Nat) : Int) = 0 from rfl] at e
    rw [e]
    simp only [Option.bind_some]
    by_cases g : r < 0
    · rw [if_pos g]; exact ⟨-1, rfl, by omega, fun z => absurd z (by omega)⟩
    · rw [if_neg g]; exact ⟨r, rfl, hr, fun z => ⟨by omega, fun x hx => hq z x (by rw [List.drop_zero]; exact hx)⟩⟩
def Pass.fit (L : List S102) : Prop := L.length ≤ 9223372036854775807 ∧ ∀ p ∈ L, p.f0.length ≤ 9223372036854775807 ∧ ∀ x ∈ p.f0, Pass.big x
theorem Pass.szRun (L : List S102) (hL : Pass.fit L) (hl : L.length ≤ 1048576) (M : Nat) (hM : ∀ p ∈ L, p.f0.length < M) (d : Nat) : ∀ (k i : Nat) (a : Int), i ≤ L.length → L.length - i = d → d + M < k → 0 ≤ a → a ≤ 1048576 →
    ∃ r, laws_szPassS.l0 k L a (i : Int) = some r ∧ r ≤ 1048576 ∧ (0 ≤ r → ∀ p ∈ L.drop i, p.f0.length ≤ 1048576 ∧ ∀ x ∈ p.f0, Pass.small (Pass.cv x)) := by
  induction d with
  | zero =>
    intro k i a h1 h2 h3 h4 h5
    obtain ⟨k, rfl⟩ : ∃ m, k = m + 1 := ⟨k - 1, by omega⟩
    rw [laws_szPassS.l0, if_neg (by omega), List.drop_eq_nil_of_le (by omega)]
    exact ⟨a, rfl, h5, fun _ x hx => by cases hx⟩
  | succ d ih =>
    intro k i a h1 h2 h3 h4 h5
    obtain ⟨k, rfl⟩ : ∃ m, k = m + 1 := ⟨k - 1, by omega⟩
    have hi : i < L.length := by omega
    have hp := hL.2 _ (List.getElem_mem hi)
    have hm := hM _ (List.getElem_mem hi)
    obtain ⟨t, e, ht, hs⟩ := Pass.szPass L[i].f0 L[i].f1 hp.2 hp.1 k (by omega) a h4 h5
    rw [laws_szPassS.l0, if_pos (by omega), if_pos (by omega), Pass.rdA hi, e, Pass.wr i (by omega)]
    simp only [Option.bind_some]
    by_cases c : t < 0
    · rw [if_pos c]; exact ⟨-1, rfl, by omega, fun z => absurd z (by omega)⟩
    · rw [if_neg c]
      obtain ⟨r, e2, hr, hq⟩ := ih k (i + 1) t (by omega) (by omega) (by omega) (by omega) ht
      refine ⟨r, e2, hr, fun z p hx => ?_⟩
      rw [List.drop_eq_getElem_cons hi] at hx
      rcases List.mem_cons.1 hx with rfl | hx
      · exact hs (by omega)
      · exact hq z p hx
theorem Pass.toRules (R : List S180) (hl : R.length ≤ 1048576) (d : Nat) : ∀ (k i : Nat) (X : List S108), X.length = R.length → (∀ j < i, X[j]? = (R.map Pass.cv)[j]?) → i ≤ R.length → R.length - i = d → d < k →
    laws_toWriteRuleS.l0 k R X (i : Int) = some (R.map Pass.cv) := by
  induction d with
  | zero =>
    intro k i X hx hg h1 h2 h3
    obtain ⟨k, rfl⟩ : ∃ m, k = m + 1 := ⟨k - 1, by omega⟩
    rw [laws_toWriteRuleS.l0, if_neg (by omega)]
    congr 1
    apply List.ext_getElem?
    intro j
    by_cases hj : j < i
    · exact hg j hj
    · rw [List.getElem?_eq_none (by omega), List.getElem?_eq_none (by rw [List.length_map]; omega)]
  | succ d ih =>
    intro k i X hx hg h1 h2 h3
    obtain ⟨k, rfl⟩ : ∃ m, k = m + 1 := ⟨k - 1, by omega⟩
    have hi : i < R.length := by omega
    rw [laws_toWriteRuleS.l0, if_pos (by omega), if_pos (by omega), Pass.rdB hi, Pass.wr i (by omega), Int.toNat_natCast]
    unfold laws_toWriteRule.f
    simp only [Option.bind_some]
    rw [if_pos (by omega)]
    refine ih k (i + 1) _ (by rw [List.length_set]; exact hx) ?_ (by omega) (by omega) (by omega)
    intro j hj
    by_cases c : j = i
    · subst c
      rw [List.getElem?_set_self (by omega), List.getElem?_map, List.getElem?_eq_getElem hi]
      rfl
    · rw [List.getElem?_set_ne (by omega)]; exact hg j (by omega)
theorem Pass.toPass (R : List S180) (n : Int) (hl : R.length ≤ 1048576) (k : Nat) (hk : R.length < k) : laws_toPass.f k R n = some (R.map Pass.cv, n) := by
  unfold laws_toPass.f laws_toWriteRuleS.f
  rw [if_pos (by omega), if_pos (by rw [Int.toNat_natCast]; omega)]
  have q := Pass.toRules R hl R.length k 0 (List.replicate R.length z108) (by simp) (fun j hj => absurd hj (Nat.not_lt_zero _)) (Nat.zero_le _) rfl hk
  rw [show ((0 : Nat) : Int) = 0 from rfl] at q
  rw [Int.toNat_natCast, q]
  rfl
theorem Pass.toRun (L : List S102) (hl : L.length ≤ 1048576) (hL : ∀ p ∈ L, p.f0.length ≤ 1048576) (M : Nat) (hM : ∀ p ∈ L, p.f0.length < M) (d : Nat) : ∀ (k i : Nat) (X : List S106), X.length = L.length → (∀ j < i, X[j]? = (L.map Pass.cvp)[j]?) → i ≤ L.length → L.length - i = d → d + M < k →
    laws_toPassS.l0 k L X (i : Int) = some (L.map Pass.cvp) := by
  induction d with
  | zero =>
    intro k i X hx hg h1 h2 h3
    obtain ⟨k, rfl⟩ : ∃ m, k = m + 1 := ⟨k - 1, by omega⟩
    rw [laws_toPassS.l0, if_neg (by omega)]
    congr 1
    apply List.ext_getElem?
    intro j
    by_cases hj : j < i
    · exact hg j hj
    · rw [List.getElem?_eq_none (by omega), List.getElem?_eq_none (by rw [List.length_map]; omega)]
  | succ d ih =>
    intro k i X hx hg h1 h2 h3
    obtain ⟨k, rfl⟩ : ∃ m, k = m + 1 := ⟨k - 1, by omega⟩
    have hi : i < L.length := by omega
    rw [laws_toPassS.l0, if_pos (by omega), if_pos (by omega), Pass.rdA hi, Pass.wr i (by omega), Int.toNat_natCast, Pass.toPass _ _ (hL _ (List.getElem_mem hi)) k (by have := hM _ (List.getElem_mem hi); omega)]
    simp only [Option.bind_some]
    rw [if_pos (by omega)]
    refine ih k (i + 1) _ (by rw [List.length_set]; exact hx) ?_ (by omega) (by omega) (by omega)
    intro j hj
    by_cases c : j = i
    · subst c
      rw [List.getElem?_set_self (by omega), List.getElem?_map, List.getElem?_eq_getElem hi]
      rfl
    · rw [List.getElem?_set_ne (by omega)]; exact hg j (by omega)
theorem Pass.to (L : List S102) (hl : L.length ≤ 1048576) (hL : ∀ p ∈ L, p.f0.length ≤ 1048576) (M : Nat) (hM : ∀ p ∈ L, p.f0.length < M) (k : Nat) (hk : L.length + M < k) : laws_toPassS.f k L = some (L.map Pass.cvp) := by
  unfold laws_toPassS.f
  rw [if_pos (by omega), if_pos (by rw [Int.toNat_natCast]; omega)]
  have q := Pass.toRun L hl hL M hM L.length k 0 (List.replicate L.length z106) (by simp) (fun j hj => absurd hj (Nat.not_lt_zero _)) (Nat.zero_le _) rfl hk
  rw [show ((0 : Nat) : Int) = 0 from rfl] at q
  rw [Int.toNat_natCast, q]
theorem Pass.eqRules (R : List S108) (hl : R.length ≤ 1048576) (d : Nat) : ∀ (k i : Nat), i ≤ R.length → R.length - i = d → d < k → laws_eqWriteRuleS.l0 k R R (i : Int) = some true := by
  induction d with
  | zero =>
    intro k i h1 h2 h3
    obtain ⟨k, rfl⟩ : ∃ m, k = m + 1 := ⟨k - 1, by omega⟩
    rw [laws_eqWriteRuleS.l0, if_neg (by omega)]
  | succ d ih =>
    intro k i h1 h2 h3
    obtain ⟨k, rfl⟩ : ∃ m, k = m + 1 := ⟨k - 1, by omega⟩
    have hi : i < R.length := by omega
    rw [laws_eqWriteRuleS.l0, if_pos (by omega), if_pos (by omega), if_pos (by omega), Pass.wr i (by omega)]
    unfold laws_eqWriteRule.f
    rw [if_pos rfl, if_pos rfl, if_pos rfl, if_pos rfl, if_pos rfl]
    simp only [Option.bind_some]
    rw [if_pos trivial]
    exact ih k (i + 1) (by omega) (by omega) (by omega)
theorem Pass.eqRun (L : List S106) (hl : L.length ≤ 1048576) (hL : ∀ p ∈ L, p.f0.length ≤ 1048576) (M : Nat) (hM : ∀ p ∈ L, p.f0.length < M) (d : Nat) : ∀ (k i : Nat), i ≤ L.length → L.length - i = d → d + M < k → laws_eqPassS.l0 k L L (i : Int) = some true := by
  induction d with
  | zero =>
    intro k i h1 h2 h3
    obtain ⟨k, rfl⟩ : ∃ m, k = m + 1 := ⟨k - 1, by omega⟩
    rw [laws_eqPassS.l0, if_neg (by omega)]
  | succ d ih =>
    intro k i h1 h2 h3
    obtain ⟨k, rfl⟩ : ∃ m, k = m + 1 := ⟨k - 1, by omega⟩
    have hi : i < L.length := by omega
    have q := Pass.eqRules L[i].f0 (hL _ (List.getElem_mem hi)) L[i].f0.length k 0 (Nat.zero_le _) rfl (by have := hM _ (List.getElem_mem hi); omega)
    rw [show ((0 : Nat) : Int) = 0 from rfl] at q
    rw [laws_eqPassS.l0, if_pos (by omega), if_pos (by omega), if_pos (by omega), Pass.wr i (by omega), Pass.rdP hi]
    unfold laws_eqPass.f laws_eqWriteRuleS.f
    rw [if_pos rfl, q]
    simp only [Option.bind_some]
    rw [if_pos trivial, if_pos trivial]
    simp only [Option.bind_some]
    rw [if_pos trivial]
    exact ih k (i + 1) (by omega) (by omega) (by omega)
theorem Pass.most : ∀ (L : List S102), ∃ M, ∀ p ∈ L, p.f0.length < M
  | [] => ⟨0, fun p hp => by cases hp⟩
  | p :: t => by
    obtain ⟨M, h⟩ := Pass.most t
    refine ⟨M + p.f0.length + 1, fun q hq => ?_⟩
    rcases List.mem_cons.1 hq with rfl | hq
    · omega
    · have := h q hq; omega
theorem FnExactShowPasses (L : List S102) (hL : Pass.fit L) : ∃ k, laws_FnExactShowPasses.f k L = some true := by
  obtain ⟨M, hM⟩ := Pass.most L
  obtain ⟨K, hK⟩ : ∃ K, ∀ k, K ≤ k → impl_ShowPasses.fits (L.map Pass.cvp) → spec_ShowPasses.l0 k (L.map Pass.cvp) (⟨#[]⟩ : ByteArray) 0 = impl_ShowPasses.g (L.map Pass.cvp) := by
    by_cases h : impl_ShowPasses.fits (L.map Pass.cvp)
    · obtain ⟨K, hK⟩ := Pass.showRun (L.map Pass.cvp) h _ 0 (Nat.zero_le _) rfl
      exact ⟨K, fun k hk _ => hK k hk⟩
    · exact ⟨0, fun k _ g => absurd g h⟩
  refine ⟨L.length + M + Pass.need (L.map Pass.cvp) + 3 + (L.map Pass.cvp).length + K, ?_⟩
  obtain ⟨k, hk⟩ : ∃ k, L.length + M + Pass.need (L.map Pass.cvp) + 3 + (L.map Pass.cvp).length + K = k := ⟨_, rfl⟩
  rw [hk]
  unfold laws_FnExactShowPasses.f laws_szPassS.f
  rw [Pass.sub 1048576 _ (by omega) (by omega) hL.1]
  by_cases c : (1048576 : Int) - (L.length : Int) < 0
  · rw [if_pos c]; rfl
  · rw [if_neg c]
    obtain ⟨r, e, _, hq⟩ := Pass.szRun L hL (by omega) M hM L.length k 0 (1048576 - (L.length : Int)) (Nat.zero_le _) rfl (by omega) (by omega) (by omega)
    rw [show ((0 : Nat) : Int) = 0 from rfl] at e
    rw [e, Option.bind_some]
    by_cases g : r < 0
    · rw [if_pos g]
    · rw [if_neg g]
      have hs := hq (by omega)
      rw [List.drop_zero] at hs
      have hf : Pass.few (L.map Pass.cvp) := by
        refine ⟨by rw [List.length_map]; omega, fun p hp => ?_⟩
        obtain ⟨q, hq, rfl⟩ := List.mem_map.1 hp
        obtain ⟨h1, h2⟩ := hs q hq
        refine ⟨by show (q.f0.map Pass.cv).length ≤ 1048576; rw [List.length_map]; exact h1, fun x hx => ?_⟩
        obtain ⟨y, hy, rfl⟩ := List.mem_map.1 (show x ∈ q.f0.map Pass.cv from hx)
        exact h2 y hy
      have hM2 : ∀ p ∈ L.map Pass.cvp, p.f0.length < M := by
        intro p hp
        obtain ⟨q, hq, rfl⟩ := List.mem_map.1 hp
        show (q.f0.map Pass.cv).length < M
        rw [List.length_map]
        exact hM q hq
      have hlen : (L.map Pass.cvp).length = L.length := List.length_map _
      have q := Pass.eqRun (L.map Pass.cvp) hf.1 (fun p hp => (hf.2 p hp).1) M hM2 (L.map Pass.cvp).length k 0 (Nat.zero_le _) rfl (by omega)
      rw [show ((0 : Nat) : Int) = 0 from rfl] at q
      rw [Pass.to L (by omega) (fun p hp => (hs p hp).1) M hM k (by omega), Option.bind_some]
      obtain ⟨v, s1, s2, s3⟩ := Pass.both (L.map Pass.cvp) hf k (by omega)
      obtain ⟨t, t1, t2⟩ : ∃ t, spec_ShowPasses.f k (L.map Pass.cvp) = some t ∧ impl_ShowPasses.f k (L.map Pass.cvp) = some t := by
        unfold spec_ShowPasses.f impl_ShowPasses.f
        rw [s1, s2, Option.bind_some, Option.bind_some]
        by_cases z : v = 0
        · obtain ⟨t, ht⟩ := Pass.gSome (s3 z)
          rw [if_pos z, if_pos z, hK k (by omega) (s3 z)]
          exact ⟨t, ht, ht⟩
        · rw [if_neg z, if_neg z]
          exact ⟨_, rfl, rfl⟩
      rw [t1, Option.bind_some, Option.bind_some, t2, Option.bind_some, if_pos rfl, Option.bind_some]
      unfold laws_eqPassS.f
      rw [if_pos rfl, q, Option.bind_some, if_pos rfl]
end Go.Proofs.YtiabgmddnddeiaaDoor.Pure
