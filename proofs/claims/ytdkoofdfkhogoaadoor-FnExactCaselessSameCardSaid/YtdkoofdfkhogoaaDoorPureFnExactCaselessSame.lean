/- The law FnExactCaselessSame in plain Lean: two texts are without case the same to the reference just if they are to the program, at every input. -/
import Derived.Test.YtdkoofdfkhogoaaDoorQFnExactCaselessSamex17
namespace Go.Proofs.YtdkoofdfkhogoaaDoor.Pure
open YtdkoofdfkhogoaaDoorNrm
open Go.RowKit Go.Proofs.YtdkoofdfkhogoaaDoor.QFnExactCaselessSame Go.Proofs.YtdkoofdfkhogoaaDoorW.PrintWords Go.Proofs.YtdkoofdfkhogoaaDoorW.PrintLast

theorem Fold.kind_4 {p : Int} (h : 8192 ≤ p ∧ p ≤ 9631) : (impl_kind.g p).1 = if (p - 8192) % 512 < 416 then (if (p - 8192) % 512 < 208 then 4 else 5) else 0 := by
  unfold impl_kind.g
  by_cases c : (p - 8192) % 512 < 416
  · by_cases d : (p - 8192) % 512 < 208
    · repeat (first | rw [if_pos (by omega)] | rw [if_neg (by omega)])
    · repeat (first | rw [if_pos (by omega)] | rw [if_neg (by omega)])
  · repeat (first | rw [if_pos (by omega)] | rw [if_neg (by omega)])

theorem Fold.same (p : Int) (h0 : 0 ≤ p) (h1 : p ≤ 1114111) : spec_l06Lower.g p = (impl_cases.g p).2.2 := by
  unfold spec_l06Lower.g
  by_cases a : 512 ≤ p ∧ p < 1280
  · skip
    by_cases c : p % 256 < 64
    · skip
      obtain ⟨X, hX⟩ : ∃ x, spec_l06Three.g p = x := ⟨_, rfl⟩
      obtain ⟨Y, hY⟩ : ∃ x, impl_cases.g p = x := ⟨_, rfl⟩
      rw [hX, hY]
      unfold spec_l06Three.g at hX
      unfold impl_cases.g at hY
      try rw [Fold.kind_4 b] at hY
      repeat (first | rw [if_pos (by omega)] at hX | rw [if_neg (by omega)] at hX)
      repeat (first | rw [if_pos (by omega)] at hY | rw [if_neg (by omega)] at hY)
      subst hX hY
      first
        | (rw [if_pos (by omega)]; simp; done)
        | (rw [if_pos (by omega)]; simp; omega)
        | (rw [if_neg (by omega)]; simp; done)
        | (rw [if_neg (by omega)]; simp; omega)
    · skip
      by_cases d : p % 256 < 76
      · skip
        obtain ⟨X, hX⟩ : ∃ x, spec_l06Three.g p = x := ⟨_, rfl⟩
        obtain ⟨Y, hY⟩ : ∃ x, impl_cases.g p = x := ⟨_, rfl⟩
        rw [hX, hY]
        unfold spec_l06Three.g at hX
        unfold impl_cases.g at hY
        try rw [Fold.kind_4 b] at hY
        repeat (first | rw [if_pos (by omega)] at hX | rw [if_neg (by omega)] at hX)
        repeat (first | rw [if_pos (by omega)] at hY | rw [if_neg (by omega)] at hY)
        subst hX hY
        first
          | (rw [if_pos (by omega)]; simp; done)
          | (rw [if_pos (by omega)]; simp; omega)
          | (rw [if_neg (by omega)]; simp; done)
          | (rw [if_neg (by omega)]; simp; omega)
      · skip
        by_cases e : p % 256 = 97
        · skip
          obtain ⟨X, hX⟩ : ∃ x, spec_l06Three.g p = x := ⟨_, rfl⟩
          obtain ⟨Y, hY⟩ : ∃ x, impl_cases.g p = x := ⟨_, rfl⟩
          rw [hX, hY]
          unfold spec_l06Three.g at hX
          unfold impl_cases.g at hY
          try rw [Fold.kind_4 b] at hY
          repeat (first | rw [if_pos (by omega)] at hX | rw [if_neg (by omega)] at hX)
          repeat (first | rw [if_pos (by omega)] at hY | rw [if_neg (by omega)] at hY)
          subst hX hY
          first
            | (rw [if_pos (by omega)]; simp; done)
            | (rw [if_pos (by omega)]; simp; omega)
            | (rw [if_neg (by omega)]; simp; done)
            | (rw [if_neg (by omega)]; simp; omega)
        · skip
          obtain ⟨X, hX⟩ : ∃ x, spec_l06Three.g p = x := ⟨_, rfl⟩
          obtain ⟨Y, hY⟩ : ∃ x, impl_cases.g p = x := ⟨_, rfl⟩
          rw [hX, hY]
          unfold spec_l06Three.g at hX
          unfold impl_cases.g at hY
          try rw [Fold.kind_4 b] at hY
          repeat (first | rw [if_pos (by omega)] at hX | rw [if_neg (by omega)] at hX)
          repeat (first | rw [if_pos (by omega)] at hY | rw [if_neg (by omega)] at hY)
          subst hX hY
          first
            | (rw [if_pos (by omega)]; simp; done)
            | (rw [if_pos (by omega)]; simp; omega)
            | (rw [if_neg (by omega)]; simp; done)
            | (rw [if_neg (by omega)]; simp; omega)
  · skip
    by_cases b : 8192 ≤ p ∧ p ≤ 9631
    · skip
      by_cases c : (p - 8192) % 512 < 416
      · skip
        by_cases d : (p - 8192) % 512 < 208
        · skip
          obtain ⟨X, hX⟩ : ∃ x, spec_l06Three.g p = x := ⟨_, rfl⟩
          obtain ⟨Y, hY⟩ : ∃ x, impl_cases.g p = x := ⟨_, rfl⟩
          rw [hX, hY]
          unfold spec_l06Three.g at hX
          unfold impl_cases.g at hY
          try rw [Fold.kind_4 b] at hY
          repeat (first | rw [if_pos (by omega)] at hX | rw [if_neg (by omega)] at hX)
          repeat (first | rw [if_pos (by omega)] at hY | rw [if_neg (by omega)] at hY)
          subst hX hY
          first
            | (rw [if_pos (by omega)]; simp; done)
            | (rw [if_pos (by omega)]; simp; omega)
            | (rw [if_neg (by omega)]; simp; done)
            | (rw [if_neg (by omega)]; simp; omega)
        · skip
          obtain ⟨X, hX⟩ : ∃ x, spec_l06Three.g p = x := ⟨_, rfl⟩
          obtain ⟨Y, hY⟩ : ∃ x, impl_cases.g p = x := ⟨_, rfl⟩
          rw [hX, hY]
          unfold spec_l06Three.g at hX
          unfold impl_cases.g at hY
          try rw [Fold.kind_4 b] at hY
          repeat (first | rw [if_pos (by omega)] at hX | rw [if_neg (by omega)] at hX)
          repeat (first | rw [if_pos (by omega)] at hY | rw [if_neg (by omega)] at hY)
          subst hX hY
          first
            | (rw [if_pos (by omega)]; simp; done)
            | (rw [if_pos (by omega)]; simp; omega)
            | (rw [if_neg (by omega)]; simp; done)
            | (rw [if_neg (by omega)]; simp; omega)
      · skip
        obtain ⟨X, hX⟩ : ∃ x, spec_l06Three.g p = x := ⟨_, rfl⟩
        obtain ⟨Y, hY⟩ : ∃ x, impl_cases.g p = x := ⟨_, rfl⟩
        rw [hX, hY]
        unfold spec_l06Three.g at hX
        unfold impl_cases.g at hY
        try rw [Fold.kind_4 b] at hY
        repeat (first | rw [if_pos (by omega)] at hX | rw [if_neg (by omega)] at hX)
        repeat (first | rw [if_pos (by omega)] at hY | rw [if_neg (by omega)] at hY)
        subst hX hY
        first
          | (rw [if_pos (by omega)]; simp; done)
          | (rw [if_pos (by omega)]; simp; omega)
          | (rw [if_neg (by omega)]; simp; done)
          | (rw [if_neg (by omega)]; simp; omega)
    · skip
      by_cases c : 65 ≤ p ∧ p ≤ 90
      · skip
        obtain ⟨X, hX⟩ : ∃ x, spec_l06Three.g p = x := ⟨_, rfl⟩
        obtain ⟨Y, hY⟩ : ∃ x, impl_cases.g p = x := ⟨_, rfl⟩
        rw [hX, hY]
        unfold spec_l06Three.g at hX
        unfold impl_cases.g at hY
        try rw [Fold.kind_4 b] at hY
        repeat (first | rw [if_pos (by omega)] at hX | rw [if_neg (by omega)] at hX)
        repeat (first | rw [if_pos (by omega)] at hY | rw [if_neg (by omega)] at hY)
        subst hX hY
        first
          | (rw [if_pos (by omega)]; simp; done)
          | (rw [if_pos (by omega)]; simp; omega)
          | (rw [if_neg (by omega)]; simp; done)
          | (rw [if_neg (by omega)]; simp; omega)
      · skip
        by_cases d : 97 ≤ p ∧ p ≤ 122
        · skip
          obtain ⟨X, hX⟩ : ∃ x, spec_l06Three.g p = x := ⟨_, rfl⟩
          obtain ⟨Y, hY⟩ : ∃ x, impl_cases.g p = x := ⟨_, rfl⟩
          rw [hX, hY]
          unfold spec_l06Three.g at hX
          unfold impl_cases.g at hY
          try rw [Fold.kind_4 b] at hY
          repeat (first | rw [if_pos (by omega)] at hX | rw [if_neg (by omega)] at hX)
          repeat (first | rw [if_pos (by omega)] at hY | rw [if_neg (by omega)] at hY)
          subst hX hY
          first
            | (rw [if_pos (by omega)]; simp; done)
            | (rw [if_pos (by omega)]; simp; omega)
            | (rw [if_neg (by omega)]; simp; done)
            | (rw [if_neg (by omega)]; simp; omega)
        · skip
          by_cases e : 9728 ≤ p ∧ p ≤ 9753
          · skip
            obtain ⟨X, hX⟩ : ∃ x, spec_l06Three.g p = x := ⟨_, rfl⟩
            obtain ⟨Y, hY⟩ : ∃ x, impl_cases.g p = x := ⟨_, rfl⟩
            rw [hX, hY]
            unfold spec_l06Three.g at hX
            unfold impl_cases.g at hY
            try rw [Fold.kind_4 b] at hY
            repeat (first | rw [if_pos (by omega)] at hX | rw [if_neg (by omega)] at hX)
            repeat (first | rw [if_pos (by omega)] at hY | rw [if_neg (by omega)] at hY)
            subst hX hY
            first
              | (rw [if_pos (by omega)]; simp; done)
              | (rw [if_pos (by omega)]; simp; omega)
              | (rw [if_neg (by omega)]; simp; done)
              | (rw [if_neg (by omega)]; simp; omega)
          · skip
            obtain ⟨X, hX⟩ : ∃ x, spec_l06Three.g p = x := ⟨_, rfl⟩
            obtain ⟨Y, hY⟩ : ∃ x, impl_cases.g p = x := ⟨_, rfl⟩
            rw [hX, hY]
            unfold spec_l06Three.g at hX
            unfold impl_cases.g at hY
            try rw [Fold.kind_4 b] at hY
            repeat (first | rw [if_pos (by omega)] at hX | rw [if_neg (by omega)] at hX)
            repeat (first | rw [if_pos (by omega)] at hY | rw [if_neg (by omega)] at hY)
            subst hX hY
            first
              | (rw [if_pos (by omega)]; simp; done)
              | (rw [if_pos (by omega)]; simp; omega)
              | (rw [if_neg (by omega)]; simp; done)
              | (rw [if_neg (by omega)]; simp; omega)

theorem Fold.flat (l : List Int) (h : ∀ p ∈ l, YtdkoofdfkhogoaaDoorPts.isP p) : l.flatMap impl_fold.one = l.flatMap spec_l06Fold.one := by
  induction l with
  | nil => rfl
  | cons p l ih =>
    rw [List.flatMap_cons, List.flatMap_cons, ih (fun q hq => h q (List.mem_cons_of_mem _ hq))]
    have hp := h p (List.mem_cons_self ..)
    unfold YtdkoofdfkhogoaaDoorPts.isP at hp
    congr 1
    unfold impl_fold.one spec_l06Fold.one
    rw [Fold.same p hp.1 hp.2.1]

theorem Cs.cmp1_in : ∀ (t : List Int) (s : Int) (tail : List Int), ∀ q ∈ cmp1 s tail t, q = s ∨ q ∈ tail ∨ q ∈ t ∨ comp q
  | [], s, tail => by
    intro q hq
    rw [cmp1] at hq
    rcases List.mem_cons.1 hq with rfl | hq
    · exact .inl rfl
    · exact .inr (.inl hq)
  | p :: t, s, tail => by
    intro q hq
    rw [cmp1] at hq
    split at hq
    · rename_i c
      rcases Cs.cmp1_in t _ _ q hq with rfl | h | h | h
      · exact .inr (.inr (.inr (pair_comp c.2)))
      · exact .inr (.inl h)
      · exact .inr (.inr (.inl (by simp [h])))
      · exact .inr (.inr (.inr h))
    · split at hq
      · rcases List.mem_append.1 hq with hq | hq
        · rcases List.mem_cons.1 hq with rfl | hq
          · exact .inl rfl
          · exact .inr (.inl hq)
        · rcases Cs.cmp1_in t _ _ q hq with rfl | h | h | h
          · exact .inr (.inr (.inl (by simp)))
          · cases h
          · exact .inr (.inr (.inl (by simp [h])))
          · exact .inr (.inr (.inr h))
      · rcases Cs.cmp1_in t _ _ q hq with rfl | h | h | h
        · exact .inl rfl
        · rcases List.mem_append.1 h with h | h
          · exact .inr (.inl h)
          · exact .inr (.inr (.inl (by simp [List.mem_singleton.1 h])))
        · exact .inr (.inr (.inl (by simp [h])))
        · exact .inr (.inr (.inr h))
theorem Cs.cmp0_in : ∀ (l : List Int), ∀ q ∈ cmp0 l, q ∈ l ∨ comp q
  | [] => by intro q hq; cases hq
  | p :: t => by
    intro q hq
    rw [cmp0] at hq
    split at hq
    · rcases Cs.cmp1_in t _ _ q hq with rfl | h | h | h
      · exact .inl (by simp)
      · cases h
      · exact .inl (by simp [h])
      · exact .inr h
    · rcases List.mem_cons.1 hq with rfl | hq
      · exact .inl (by simp)
      · rcases Cs.cmp0_in t q hq with h | h
        · exact .inl (by simp [h])
        · exact .inr h
theorem Cs.dec_isP {k : Bool} {p : Int} (h : YtdkoofdfkhogoaaDoorPts.isP p) : ∀ q ∈ dec k p, YtdkoofdfkhogoaaDoorPts.isP q := by
  have hl := @letter_range (p % 512 / 8)
  intro q hq
  unfold YtdkoofdfkhogoaaDoorPts.isP at h ⊢
  unfold dec at hq
  repeat' split at hq
  all_goals simp only [List.mem_cons, List.mem_nil_iff, or_false] at hq
  all_goals omega
theorem Cs.nf_isP {f : Int} {l : List Int} (h : ∀ p ∈ l, YtdkoofdfkhogoaaDoorPts.isP p) : ∀ q ∈ nf f l, YtdkoofdfkhogoaaDoorPts.isP q := by
  have hd : ∀ k, ∀ q ∈ D k l, YtdkoofdfkhogoaaDoorPts.isP q := fun k q hq => by
    obtain ⟨p, hp, hq⟩ := List.mem_flatMap.1 (ord_mem.1 hq)
    exact Cs.dec_isP (h p hp) q hq
  intro q hq
  unfold nf at hq
  split at hq
  · exact hd _ q hq
  · rcases Cs.cmp0_in _ q hq with h | h
    · exact hd _ q h
    · unfold comp at h
      unfold YtdkoofdfkhogoaaDoorPts.isP
      omega
theorem Cs.cmp1_len : ∀ (t : List Int) (s : Int) (tail : List Int), (cmp1 s tail t).length ≤ 1 + tail.length + t.length
  | [], s, tail => by rw [cmp1, List.length_cons, List.length_nil]; omega
  | p :: t, s, tail => by
    rw [cmp1]
    split
    · have := Cs.cmp1_len t (pair s p) tail; rw [List.length_cons]; omega
    · split
      · have := Cs.cmp1_len t p []; rw [List.length_append, List.length_cons, List.length_cons]; rw [List.length_nil] at this; omega
      · have := Cs.cmp1_len t s (tail ++ [p]); rw [List.length_append, List.length_singleton] at this; rw [List.length_cons]; omega
theorem Cs.cmp0_len : ∀ (l : List Int), (cmp0 l).length ≤ l.length
  | [] => Nat.le_refl _
  | p :: t => by
    rw [cmp0]
    split
    · have := Cs.cmp1_len t p []; rw [List.length_nil] at this; rw [List.length_cons]; omega
    · have := Cs.cmp0_len t; rw [List.length_cons, List.length_cons]; omega
theorem Cs.nf_len (f : Int) (l : List Int) : (nf f l).length ≤ 3 * l.length := by
  have hd : ∀ k, (D k l).length ≤ 3 * l.length := fun k => by
    unfold D
    rw [(ord_perm _).length_eq]
    exact spec_l05All.flen k l
  unfold nf
  split
  · exact hd _
  · exact Nat.le_trans (Cs.cmp0_len _) (hd _)
theorem Cs.range {l : List Int} (h : ∀ p ∈ l, YtdkoofdfkhogoaaDoorPts.isP p) : ∀ p ∈ l, 0 ≤ p ∧ p ≤ 1114111 := fun p hp => by
  have := h p hp
  unfold YtdkoofdfkhogoaaDoorPts.isP at this
  omega
theorem Cs.encs_inj {a b : List Int} (ha : ∀ p ∈ a, YtdkoofdfkhogoaaDoorPts.isP p) (hb : ∀ p ∈ b, YtdkoofdfkhogoaaDoorPts.isP p) (h : YtdkoofdfkhogoaaDoorPts.encs a = YtdkoofdfkhogoaaDoorPts.encs b) : a = b := by
  have := congrArg YtdkoofdfkhogoaaDoorPts.pts h
  rw [YtdkoofdfkhogoaaDoorPts.pts_encs, YtdkoofdfkhogoaaDoorPts.pts_encs, YtdkoofdfkhogoaaDoorPts.map_fix ha, YtdkoofdfkhogoaaDoorPts.map_fix hb] at this
  exact this
theorem Cs.one_isP {p : Int} (h : YtdkoofdfkhogoaaDoorPts.isP p) : ∀ q ∈ spec_l06Fold.one p, YtdkoofdfkhogoaaDoorPts.isP q := by
  intro q hq
  unfold YtdkoofdfkhogoaaDoorPts.isP at h ⊢
  unfold spec_l06Fold.one at hq
  split at hq
  · simp only [List.mem_cons, List.mem_nil_iff, or_false] at hq; omega
  · split at hq
    · rw [List.mem_singleton.1 hq]; omega
    · rw [List.mem_singleton.1 hq]
      unfold spec_l06Lower.g
      split
      · omega
      · unfold spec_l06Three.g
        repeat' split
        all_goals first
          | omega
          | (simp only [] at *; omega)
          | (rename_i h2; simp at h2)
theorem Cs.same (a b : List Int) (hn : a.length ≤ 1099511627776) : ∃ k, spec_l04Same.f k a b = some (decide (a = b)) := by
  have run : ∀ (d i k : Nat), a.length = b.length → a.length - i = d → i ≤ a.length → d < k → a.take i = b.take i → spec_l04Same.l0 k a b (i : Int) = some (decide (a = b)) := by
    intro d
    induction d with
    | zero =>
      intro i k hl hd hi hk ht
      obtain ⟨k, rfl⟩ : ∃ m, k = m + 1 := ⟨k - 1, by omega⟩
      simp only [spec_l04Same.l0]
      rw [if_neg (by omega)]
      have : i = a.length := by omega
      rw [List.take_of_length_le (by omega), List.take_of_length_le (by omega)] at ht
      rw [decide_eq_true ht]
    | succ d ih =>
      intro i k hl hd hi hk ht
      obtain ⟨k, rfl⟩ : ∃ m, k = m + 1 := ⟨k - 1, by omega⟩
      have h1 : i < a.length := by omega
      have h2 : i < b.length := by omega
      have n1 : a.length - (i + 1) = d := by omega
      have n2 : d < k := by omega
      simp only [spec_l04Same.l0]
      rw [if_pos (by omega), if_pos (by omega), if_pos (by omega)]
      have hw : wrap64 ((i : Int) + 1) = ((i + 1 : Nat) : Int) := by unfold wrap64; omega
      have r1 : rd a (i : Int) = a[i] := by simp [rd, List.getD, h1]
      have r2 : rd b (i : Int) = b[i] := by simp [rd, List.getD, h2]
      rw [r1, r2]
      by_cases c : a[i] = b[i]
      · rw [if_pos c, hw]
        exact ih (i + 1) k hl n1 h1 n2 (by rw [List.take_succ_eq_append_getElem h1, List.take_succ_eq_append_getElem h2, ht, c])
      · rw [if_neg c, decide_eq_false]
        intro e
        subst e
        exact c rfl
  refine ⟨a.length + 1, ?_⟩
  unfold spec_l04Same.f
  by_cases c : a.length = b.length
  · rw [if_pos (by omega)]
    exact run a.length 0 _ c (by omega) (by omega) (by omega) (by simp)
  · rw [if_neg (by omega), decide_eq_false]
    intro e
    exact c (by rw [e])
theorem Cs.small (s : ByteArray) (hs : ¬ (s.size : Int) > 65536) : ∃ l : List Int, (∀ p ∈ l, YtdkoofdfkhogoaaDoorPts.isP p) ∧ l.length ≤ 10000000 ∧ spec_l06Caseless.f s = some l ∧ impl_CaselessSame.g s = some (strOfNums (YtdkoofdfkhogoaaDoorPts.encs l)) := by
  have hp := YtdkoofdfkhogoaaDoorPts.pts_isP _ (bytesOf s) (Nat.le_refl _)
  have hl := YtdkoofdfkhogoaaDoorPts.pts_length _ (bytesOf s) (Nat.le_refl _)
  rw [bytesOf_length] at hl
  unfold spec_l06Caseless.f impl_CaselessSame.g W_impl_points.f W_spec_l01Points.f
  rw [if_pos (by omega)]
  simp only [Option.bind_some]
  obtain ⟨l, hle⟩ : ∃ l, YtdkoofdfkhogoaaDoorPts.pts (bytesOf s) = l := ⟨_, rfl⟩
  rw [hle] at hp hl ⊢
  have h1 := Cs.nf_isP (f := 1) hp
  have l1 := Cs.nf_len 1 l
  unfold W_spec_l05Norm.f impl_normal.f
  rw [if_pos ⟨by omega, by omega, by omega, Cs.range hp⟩]
  simp only [Option.bind_some]
  obtain ⟨m, hm⟩ : ∃ m, nf 1 l = m := ⟨_, rfl⟩
  rw [hm] at h1 l1 ⊢
  unfold W_spec_l06Fold.f W_impl_fold.f
  rw [if_pos ⟨by omega, h1⟩, if_pos ⟨by omega, h1⟩, Fold.flat m h1]
  simp only [Option.bind_some]
  have l2 := impl_fold.len m
  rw [Fold.flat m h1] at l2
  have h2 : ∀ q ∈ m.flatMap spec_l06Fold.one, YtdkoofdfkhogoaaDoorPts.isP q := fun q hq => by
    obtain ⟨p, hp, hq⟩ := List.mem_flatMap.1 hq
    exact Cs.one_isP (h1 p hp) q hq
  obtain ⟨o, ho⟩ : ∃ o, m.flatMap spec_l06Fold.one = o := ⟨_, rfl⟩
  rw [ho] at h2 l2 ⊢
  rw [if_pos ⟨by omega, by omega, by omega, Cs.range h2⟩]
  simp only [Option.bind_some]
  have h3 := Cs.nf_isP (f := 1) h2
  have l3 := Cs.nf_len 1 o
  unfold W_impl_write.f
  rw [if_pos (by omega)]
  exact ⟨nf 1 o, h3, by omega, rfl, rfl⟩
theorem FnExactCaselessSame : laws_FnExactCaselessSame.Pure := by
  intro a b _ _
  unfold laws_FnExactCaselessSame.f
  by_cases c1 : (a.size : Int) > 1048576
  · exact ⟨0, by rw [if_pos c1]⟩
  by_cases c2 : (b.size : Int) > 1048576
  · exact ⟨0, by rw [if_neg c1, if_pos c2]⟩
  have key : ∃ k r, spec_CaselessSame.f k a b = some r ∧ impl_CaselessSame.f a b = some r := by
    unfold spec_CaselessSame.f impl_CaselessSame.f
    by_cases d1 : (a.size : Int) > 65536
    · exact ⟨0, false, by rw [if_neg (by omega)], by rw [if_pos d1]⟩
    by_cases d2 : (b.size : Int) > 65536
    · exact ⟨0, false, by rw [if_pos (by omega), if_neg (by omega)], by rw [if_neg d1, if_pos d2]⟩
    obtain ⟨x, x1, x2, x3, x4⟩ := Cs.small a d1
    obtain ⟨y, y1, y2, y3, y4⟩ := Cs.small b d2
    obtain ⟨k, hk⟩ := Cs.same x y (by omega)
    refine ⟨k, decide (x = y), ?_, ?_⟩
    · rw [if_pos (by omega), if_pos (by omega), x3, y3]
      simp only [Option.bind_some]
      rw [hk]; rfl
    · rw [if_neg d1, if_neg d2, x4, y4]
      simp only [Option.bind_some]
      congr 1
      by_cases e : x = y
      · subst e; simp
      · rw [decide_eq_false e, beq_eq_false_iff_ne]
        intro h
        rw [ByteArray.toList_eq, ByteArray.toList_eq, strOfNums_data, strOfNums_data] at h
        apply e
        apply Cs.encs_inj x1 y1
        have h2 : bytesOf (strOfNums (YtdkoofdfkhogoaaDoorPts.encs x)) = bytesOf (strOfNums (YtdkoofdfkhogoaaDoorPts.encs y)) := by
          unfold bytesOf
          rw [strOfNums_data, strOfNums_data, h]
        rwa [YtdkoofdfkhogoaaDoorPts.bytesOf_strOfNums (YtdkoofdfkhogoaaDoorPts.encs_bytes _), YtdkoofdfkhogoaaDoorPts.bytesOf_strOfNums (YtdkoofdfkhogoaaDoorPts.encs_bytes _)] at h2
  obtain ⟨k, r, h1, h2⟩ := key
  refine ⟨k, ?_⟩
  rw [if_neg c1, if_neg c2, h1, h2]
  simp

end Go.Proofs.YtdkoofdfkhogoaaDoor.Pure
