/- The law FnNormer in plain Lean: a drawn text that a normer is fed piece by piece comes to its normal form, at every input. -/
import Derived.Test.YtiabgmddnddeiaaDoorQFnNormerx19
set_option linter.unusedVariables false
set_option linter.unusedSimpArgs false
namespace Go.Proofs.YtiabgmddnddeiaaDoor.Pure
open Go.RowKit Go.Proofs.YtiabgmddnddeiaaDoor.QFnNormer Go.Proofs.YtiabgmddnddeiaaDoorW.PrintWords Go.Proofs.YtiabgmddnddeiaaDoorW.PrintLast YtiabgmddnddeiaaDoorNmr YtiabgmddnddeiaaDoorNst YtiabgmddnddeiaaDoorNrm YtiabgmddnddeiaaDoorPts

theorem Nm.at4 {l : List Int} (hl : ∀ x ∈ l, 0 ≤ x ∧ x < 256) (hn : l.length ≤ 1048576) {i : Int} (hi : 0 ≤ i) : ∃ m, laws_lwAt.f l i 4 = some m ∧ 0 ≤ m ∧ m ≤ 3 := by
  unfold laws_lwAt.f
  rw [if_neg (by omega)]
  by_cases c : (l.length : Int) = 0
  · rw [if_pos c]; exact ⟨0, rfl, by omega, by omega⟩
  rw [if_neg c]
  have e : Int.tmod i (l.length : Int) = i % (l.length : Int) := Int.tmod_eq_emod_of_nonneg hi
  have a1 : 0 ≤ i % (l.length : Int) := Int.emod_nonneg _ c
  have a2 : i % (l.length : Int) < (l.length : Int) := Int.emod_lt_of_pos _ (by omega)
  rw [e]
  generalize i % (l.length : Int) = j at a1 a2
  rw [if_pos a1, if_pos a2, if_neg (by omega)]
  have hj : j.toNat < l.length := by omega
  have hr : rd l j = l[j.toNat] := by simp [rd, List.getD, hj]
  have hb := hl _ (List.getElem_mem hj)
  rw [hr]
  have hw : wrap64 l[j.toNat] = l[j.toNat] := by unfold wrap64; omega
  rw [hw, Int.tmod_eq_emod_of_nonneg hb.1]
  exact ⟨_, rfl, by omega, by omega⟩
theorem Nm.text {l : List Int} (h : l.length ≤ 1000) : spec_TextOf.f l = some (S l) := by
  unfold spec_TextOf.f W_spec_l01Text.f
  rw [if_neg (by omega), if_pos (by omega)]
  simp only [Option.bind_some]
  unfold spec_l01Small.f
  have := S_size l
  unfold S at this
  rw [if_neg (by omega)]
  rfl
theorem Nm.loop (d : Int × ByteArray) (l1 : List Int) (hl1 : ∀ x ∈ l1, 0 ≤ x ∧ x < 256) (hn1 : l1.length ≤ 1048576) (f : Int) (t : ByteArray) (hf : ok f = true) (hP : (P t).length ≤ 1000) (hw : NT f t = S (nf f (P t))) :
    ∀ (n : Nat) (l : List Int) (out h : ByteArray) (i : Nat), l.length ≤ n → i + l.length ≤ 1000 → (h.size : Int) ≤ 1000 → NF f h = 0 → Inv f (P t) out h l → ∃ k, laws_FnNormer.l0 d k l1 (NT f t) l out (i : Int) f h = some true := by
  intro n
  induction n with
  | zero =>
    intro l out h i h0 h1 h2 h3 I
    obtain rfl := List.length_eq_zero_iff.1 (Nat.le_zero.1 h0)
    refine ⟨1, ?_⟩
    have hz : out.size + (N f h).size ≤ 9223372036854775807 := by
      have e := I.done (P_isP t)
      have := congrArg ByteArray.size e
      rw [ByteArray.size_append] at this
      have a1 := S_size (nf f (P t))
      have a2 := nf_len f (P t)
      omega
    simp only [laws_FnNormer.l0]
    rw [if_neg (by simp), impl_EndNormer.eq (by omega) h3]
    simp only [Option.bind_some]
    rw [if_pos trivial, if_pos nil_list, if_pos hz, I.done (P_isP t), hw]
    simp
  | succ n ih =>
    intro l out h i h0 h1 h2 h3 I
    by_cases c : l = []
    · exact (ih l out h i (by rw [c]; simp) h1 h2 h3 I)
    have hlen : 0 < l.length := List.length_pos_iff.2 c
    obtain ⟨m, em, m0, m1⟩ := Nm.at4 hl1 hn1 (i := (i : Int)) (by omega)
    have hm : wrap64 (1 + m) = 1 + m := by unfold wrap64; omega
    obtain ⟨x, hx, x0, x1⟩ : ∃ x : Nat, (if (1 + m) > (l.length : Int) then (l.length : Int) else 1 + m) = x ∧ 1 ≤ x ∧ x ≤ l.length := by
      by_cases z : (1 + m) > (l.length : Int)
      · exact ⟨l.length, by rw [if_pos z], hlen, Nat.le_refl _⟩
      · exact ⟨(1 + m).toNat, by rw [if_neg z]; omega, by omega, by omega⟩
    have htk : (l.take x).length ≤ 1000 := by rw [List.length_take]; omega
    have hS := S_size (l.take x)
    obtain ⟨q1, q2⟩ := I.step (c := []) hf (P_isP t) hP x x0 x1 h2
    have g1 : h.size ≤ 100000 ∧ (S (l.take x)).size ≤ 100000 := by omega
    have key : ∃ k, laws_FnNormer.j3 d k l1 (NT f t) l out (i : Int) (x : Int) f h = some true := by
      rcases q2 with ⟨b1, b2⟩ | ⟨h2', o2, b1, b2, b3, ⟨I2⟩⟩
      · refine ⟨2, ?_⟩
        simp only [laws_FnNormer.j3]
        rw [if_pos (by omega), if_pos (by omega), Int.toNat_natCast, Nm.text htk]
        simp only [Option.bind_some]
        unfold W_impl_FeedNormer.f W_spec_FeedNormer.f
        rw [if_pos g1]
        simp only [Option.bind_some]
        rw [if_pos b1, if_pos g1]
        simp only [Option.bind_some]
        simp only [laws_FnNormer.j4]
        rw [if_pos (by rw [b2]; rfl)]
      · have hz : out.size + o2.size ≤ 9223372036854775807 := by
          have e := congrArg ByteArray.size I2.ho
          rw [ByteArray.size_append] at e
          have a1 := S_size (nf f I2.a)
          have a2 := nf_len f I2.a
          have a3 := congrArg List.length I2.hT
          rw [List.length_append, List.length_append] at a3
          omega
        obtain ⟨k, hk⟩ := ih (l.drop x) (out ++ o2) h2' (i + 1) (by rw [List.length_drop]; omega) (by rw [List.length_drop]; omega) b2 b3 I2
        refine ⟨k + 2, ?_⟩
        have hi : wrap64 ((i : Int) + 1) = ((i + 1 : Nat) : Int) := by unfold wrap64; omega
        simp only [laws_FnNormer.j3]
        rw [if_pos (by omega), if_pos (by omega), Int.toNat_natCast, Nm.text htk]
        simp only [Option.bind_some]
        unfold W_impl_FeedNormer.f
        rw [if_pos g1]
        simp only [Option.bind_some]
        rw [b1]
        rw [if_neg (show ¬ ((0 : Int) = 8) by decide)]
        simp only [laws_FnNormer.j4]
        rw [if_neg (by decide), if_pos trivial]
        unfold W_impl_NormerFault.f
        rw [if_pos (by omega)]
        simp only [Option.bind_some]
        rw [b3, if_pos rfl, if_pos hz, if_pos (by omega), if_pos (by omega), hi, Int.toNat_natCast]
        exact hk
    obtain ⟨k, hk⟩ := key
    refine ⟨k + 1, ?_⟩
    simp only [laws_FnNormer.l0]
    rw [if_pos (by omega), em]
    simp only [Option.bind_some]
    rw [hm]
    by_cases z : (1 + m) > (l.length : Int)
    · rw [if_pos z]
      rw [if_pos z] at hx
      rw [hx]; exact hk
    · rw [if_neg z]
      rw [if_neg z] at hx
      rw [hx]; exact hk
theorem FnNormer : laws_FnNormer.Pure := by
  intro l0 l1 h0 h1 h2 h3 h4 h5 d hd
  obtain ⟨f, t⟩ := d
  have ht : t.size ≤ 100000 := hd
  unfold laws_FnNormer.f
  by_cases c0 : (l0.length : Int) > 1048576
  · exact ⟨1, by rw [if_pos c0]; simp only [laws_FnNormer.j0]; rw [if_pos trivial]⟩
  by_cases c1 : (l1.length : Int) > 1048576
  · exact ⟨1, by rw [if_neg c0, decide_eq_true c1]; simp only [laws_FnNormer.j0]; rw [if_pos trivial]⟩
  suffices hs : ∃ k, laws_FnNormer.j0 (f, t) k l0 l1 false = some true by
    obtain ⟨k, hk⟩ := hs
    exact ⟨k, by rw [if_neg c0, decide_eq_false c1]; exact hk⟩
  have e1 : W_spec_Normalize.f f t = some (NT f t) := if_pos (by omega)
  have e2 : W_impl_Normalize.f f t = some (NT f t) := if_pos (by omega)
  by_cases c : (NT f t).toList = []
  · refine ⟨2, ?_⟩
    simp only [laws_FnNormer.j0]
    rw [if_neg (by decide)]
    simp only [Option.bind_some]
    rw [e1]
    simp only [Option.bind_some]
    rw [if_pos c]
    simp only [laws_FnNormer.j1]
    rw [if_pos trivial, e2]
    simp
  by_cases c2 : (t.size : Int) > 900
  · refine ⟨2, ?_⟩
    simp only [laws_FnNormer.j0]
    rw [if_neg (by decide)]
    simp only [Option.bind_some]
    rw [e1]
    simp only [Option.bind_some]
    rw [if_neg c, decide_eq_true c2]
    simp only [laws_FnNormer.j1]
    rw [if_pos trivial, e2]
    simp
  have hf : ok f = true := by
    cases h : ok f with
    | true => rfl
    | false => exact absurd (by unfold NT; rw [if_pos (.inr h)]; exact nil_list) c
  have hw : NT f t = S (nf f (P t)) := by
    have e : NT f t = sh (N f t) := by unfold NT; rw [if_neg (by rw [hf]; rintro (z | z); omega; cases z)]
    rw [e] at c ⊢
    rw [(sh_ne c).1]; rfl
  have hPl := P_len t
  have i0 : NF f ⟨#[]⟩ = 0 := by
    unfold NF
    have v := S_valid (l := []) (by simp)
    have p := P_S (l := []) (by simp)
    rw [S_nil] at v p
    rw [if_pos ⟨hf, by decide, v, by rw [p]; rfl⟩]
  have hb : ∀ x ∈ l1, 0 ≤ x ∧ x < 256 := by
    intro x hx
    have := h5 x hx
    simp only [Lit.wf, Bool.and_eq_true, decide_eq_true_eq] at this
    have a : IntKind.min .u8 = 0 := rfl
    have b : IntKind.max .u8 = 255 := rfl
    omega
  obtain ⟨k, hk⟩ := Nm.loop (f, t) l1 hb (by omega) f t hf (by omega) hw (P t).length (P t) ⟨#[]⟩ ⟨#[]⟩ 0 (Nat.le_refl _) (by omega) (by decide) i0 (Inv.start f (P t))
  refine ⟨k + 2, ?_⟩
  simp only [laws_FnNormer.j0]
  rw [if_neg (by decide)]
  simp only [Option.bind_some]
  rw [e1]
  simp only [Option.bind_some]
  rw [if_neg c, decide_eq_false c2]
  simp only [laws_FnNormer.j1]
  rw [if_neg (by decide)]
  have ep : spec_PointsOf.f t = some (P t) := by
    unfold spec_PointsOf.f W_spec_l01Points.f
    rw [if_neg (by omega), if_pos (by omega)]
    rfl
  rw [ep]
  exact hk

end Go.Proofs.YtiabgmddnddeiaaDoor.Pure
