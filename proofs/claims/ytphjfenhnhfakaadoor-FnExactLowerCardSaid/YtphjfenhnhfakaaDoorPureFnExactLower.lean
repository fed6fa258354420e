/- The law FnExactLower in plain Lean: the reference's and the program's lower text are the same, at every input. -/
import Derived.Test.YtphjfenhnhfakaaDoorQFnExactLowerx10
namespace Go.Proofs.YtphjfenhnhfakaaDoor.Pure
open Go.RowKit Go.Proofs.YtphjfenhnhfakaaDoor.QFnExactLower Go.Proofs.YtphjfenhnhfakaaDoorW.PrintWords Go.Proofs.YtphjfenhnhfakaaDoorW.PrintLast

theorem Lower.kind_4 {p : Int} (h : 8192 ≤ p ∧ p ≤ 9631) : (impl_kind.g p).1 = if (p - 8192) % 512 < 416 then (if (p - 8192) % 512 < 208 then 4 else 5) else 0 := by
  unfold impl_kind.g
  by_cases c : (p - 8192) % 512 < 416
  · by_cases d : (p - 8192) % 512 < 208
    · repeat (first | rw [if_pos (by omega)] | rw [if_neg (by omega)])
    · repeat (first | rw [if_pos (by omega)] | rw [if_neg (by omega)])
  · repeat (first | rw [if_pos (by omega)] | rw [if_neg (by omega)])

theorem Lower.same (p : Int) (h0 : 0 ≤ p) (h1 : p ≤ 1114111) : spec_l06Lower.g p = (impl_cases.g p).2.2 := by
  unfold spec_l06Lower.g
  by_cases a : 512 ≤ p ∧ p < 1280
  · skip
    by_cases c : p % 256 < 64
    · skip
      obtain ⟨X, hX⟩ : ∃ x, spec_l06Three.g p = x := ⟨_, rfl⟩
      obtain ⟨Y, hY⟩ : ∃ x, impl_cases.g p = x := ⟨_, rfl⟩
      rw [hX, hY]
      unfold spec_l06Three.g at hX
      unfold impl_cases.g at hY
      try rw [Lower.kind_4 b] at hY
      repeat (first | rw [if_pos (by omega)] at hX | rw [if_neg (by omega)] at hX)
      repeat (first | rw [if_pos (by omega)] at hY | rw [if_neg (by omega)] at hY)
      subst hX hY
      first
        | (rw [if_pos (by omega)]; simp; done)
        | (rw [if_pos (by omega)]; simp; omega)
        | (rw [if_neg (by omega)]; simp; done)
        | (rw [if_neg (by omega)]; simp; omega)
    · skip
      by_cases d : p % 256 < 76
      · skip
        obtain ⟨X, hX⟩ : ∃ x, spec_l06Three.g p = x := ⟨_, rfl⟩
        obtain ⟨Y, hY⟩ : ∃ x, impl_cases.g p = x := ⟨_, rfl⟩
        rw [hX, hY]
        unfold spec_l06Three.g at hX
        unfold impl_cases.g at hY
        try rw [Lower.kind_4 b] at hY
        repeat (first | rw [if_pos (by omega)] at hX | rw [if_neg (by omega)] at hX)
        repeat (first | rw [if_pos (by omega)] at hY | rw [if_neg (by omega)] at hY)
        subst hX hY
        first
          | (rw [if_pos (by omega)]; simp; done)
          | (rw [if_pos (by omega)]; simp; omega)
          | (rw [if_neg (by omega)]; simp; done)
          | (rw [if_neg (by omega)]; simp; omega)
      · skip
        by_cases e : p % 256 = 97
        · skip
          obtain ⟨X, hX⟩ : ∃ x, spec_l06Three.g p = x := ⟨_, rfl⟩
          obtain ⟨Y, hY⟩ : ∃ x, impl_cases.g p = x := ⟨_, rfl⟩
          rw [hX, hY]
          unfold spec_l06Three.g at hX
          unfold impl_cases.g at hY
          try rw [Lower.kind_4 b] at hY
          repeat (first | rw [if_pos (by omega)] at hX | rw [if_neg (by omega)] at hX)
          repeat (first | rw [if_pos (by omega)] at hY | rw [if_neg (by omega)] at hY)
          subst hX hY
          first
            | (rw [if_pos (by omega)]; simp; done)
            | (rw [if_pos (by omega)]; simp; omega)
            | (rw [if_neg (by omega)]; simp; done)
            | (rw [if_neg (by omega)]; simp; omega)
        · skip
          obtain ⟨X, hX⟩ : ∃ x, spec_l06Three.g p = x := ⟨_, rfl⟩
          obtain ⟨Y, hY⟩ : ∃ x, impl_cases.g p = x := ⟨_, rfl⟩
          rw [hX, hY]
          unfold spec_l06Three.g at hX
          unfold impl_cases.g at hY
          try rw [Lower.kind_4 b] at hY
          repeat (first | rw [if_pos (by omega)] at hX | rw [if_neg (by omega)] at hX)
          repeat (first | rw [if_pos (by omega)] at hY | rw [if_neg (by omega)] at hY)
          subst hX hY
          first
            | (rw [if_pos (by omega)]; simp; done)
            | (rw [if_pos (by omega)]; simp; omega)
            | (rw [if_neg (by omega)]; simp; done)
            | (rw [if_neg (by omega)]; simp; omega)
  · skip
    by_cases b : 8192 ≤ p ∧ p ≤ 9631
    · skip
      by_cases c : (p - 8192) % 512 < 416
      · skip
        by_cases d : (p - 8192) % 512 < 208
        · skip
          obtain ⟨X, hX⟩ : ∃ x, spec_l06Three.g p = x := ⟨_, rfl⟩
          obtain ⟨Y, hY⟩ : ∃ x, impl_cases.g p = x := ⟨_, rfl⟩
          rw [hX, hY]
          unfold spec_l06Three.g at hX
          unfold impl_cases.g at hY
          try rw [Lower.kind_4 b] at hY
          repeat (first | rw [if_pos (by omega)] at hX | rw [if_neg (by omega)] at hX)
          repeat (first | rw [if_pos (by omega)] at hY | rw [if_neg (by omega)] at hY)
          subst hX hY
          first
            | (rw [if_pos (by omega)]; simp; done)
            | (rw [if_pos (by omega)]; simp; omega)
            | (rw [if_neg (by omega)]; simp; done)
            | (rw [if_neg (by omega)]; simp; omega)
        · skip
          obtain ⟨X, hX⟩ : ∃ x, spec_l06Three.g p = x := ⟨_, rfl⟩
          obtain ⟨Y, hY⟩ : ∃ x, impl_cases.g p = x := ⟨_, rfl⟩
          rw [hX, hY]
          unfold spec_l06Three.g at hX
          unfold impl_cases.g at hY
          try rw [Lower.kind_4 b] at hY
          repeat (first | rw [if_pos (by omega)] at hX | rw [if_neg (by omega)] at hX)
          repeat (first | rw [if_pos (by omega)] at hY | rw [if_neg (by omega)] at hY)
          subst hX hY
          first
            | (rw [if_pos (by omega)]; simp; done)
            | (rw [if_pos (by omega)]; simp; omega)
            | (rw [if_neg (by omega)]; simp; done)
            | (rw [if_neg (by omega)]; simp; omega)
      · skip
        obtain ⟨X, hX⟩ : ∃ x, spec_l06Three.g p = x := ⟨_, rfl⟩
        obtain ⟨Y, hY⟩ : ∃ x, impl_cases.g p = x := ⟨_, rfl⟩
        rw [hX, hY]
        unfold spec_l06Three.g at hX
        unfold impl_cases.g at hY
        try rw [Lower.kind_4 b] at hY
        repeat (first | rw [if_pos (by omega)] at hX | rw [if_neg (by omega)] at hX)
        repeat (first | rw [if_pos (by omega)] at hY | rw [if_neg (by omega)] at hY)
        subst hX hY
        first
          | (rw [if_pos (by omega)]; simp; done)
          | (rw [if_pos (by omega)]; simp; omega)
          | (rw [if_neg (by omega)]; simp; done)
          | (rw [if_neg (by omega)]; simp; omega)
    · skip
      by_cases c : 65 ≤ p ∧ p ≤ 90
      · skip
        obtain ⟨X, hX⟩ : ∃ x, spec_l06Three.g p = x := ⟨_, rfl⟩
        obtain ⟨Y, hY⟩ : ∃ x, impl_cases.g p = x := ⟨_, rfl⟩
        rw [hX, hY]
        unfold spec_l06Three.g at hX
        unfold impl_cases.g at hY
        try rw [Lower.kind_4 b] at hY
        repeat (first | rw [if_pos (by omega)] at hX | rw [if_neg (by omega)] at hX)
        repeat (first | rw [if_pos (by omega)] at hY | rw [if_neg (by omega)] at hY)
        subst hX hY
        first
          | (rw [if_pos (by omega)]; simp; done)
          | (rw [if_pos (by omega)]; simp; omega)
          | (rw [if_neg (by omega)]; simp; done)
          | (rw [if_neg (by omega)]; simp; omega)
      · skip
        by_cases d : 97 ≤ p ∧ p ≤ 122
        · skip
          obtain ⟨X, hX⟩ : ∃ x, spec_l06Three.g p = x := ⟨_, rfl⟩
          obtain ⟨Y, hY⟩ : ∃ x, impl_cases.g p = x := ⟨_, rfl⟩
          rw [hX, hY]
          unfold spec_l06Three.g at hX
          unfold impl_cases.g at hY
          try rw [Lower.kind_4 b] at hY
          repeat (first | rw [if_pos (by omega)] at hX | rw [if_neg (by omega)] at hX)
          repeat (first | rw [if_pos (by omega)] at hY | rw [if_neg (by omega)] at hY)
          subst hX hY
          first
            | (rw [if_pos (by omega)]; simp; done)
            | (rw [if_pos (by omega)]; simp; omega)
            | (rw [if_neg (by omega)]; simp; done)
            | (rw [if_neg (by omega)]; simp; omega)
        · skip
          by_cases e : 9728 ≤ p ∧ p ≤ 9753
          · skip
            obtain ⟨X, hX⟩ : ∃ x, spec_l06Three.g p = x := ⟨_, rfl⟩
            obtain ⟨Y, hY⟩ : ∃ x, impl_cases.g p = x := ⟨_, rfl⟩
            rw [hX, hY]
            unfold spec_l06Three.g at hX
            unfold impl_cases.g at hY
            try rw [Lower.kind_4 b] at hY
            repeat (first | rw [if_pos (by omega)] at hX | rw [if_neg (by omega)] at hX)
            repeat (first | rw [if_pos (by omega)] at hY | rw [if_neg (by omega)] at hY)
            subst hX hY
            first
              | (rw [if_pos (by omega)]; simp; done)
              | (rw [if_pos (by omega)]; simp; omega)
              | (rw [if_neg (by omega)]; simp; done)
              | (rw [if_neg (by omega)]; simp; omega)
          · skip
            obtain ⟨X, hX⟩ : ∃ x, spec_l06Three.g p = x := ⟨_, rfl⟩
            obtain ⟨Y, hY⟩ : ∃ x, impl_cases.g p = x := ⟨_, rfl⟩
            rw [hX, hY]
            unfold spec_l06Three.g at hX
            unfold impl_cases.g at hY
            try rw [Lower.kind_4 b] at hY
            repeat (first | rw [if_pos (by omega)] at hX | rw [if_neg (by omega)] at hX)
            repeat (first | rw [if_pos (by omega)] at hY | rw [if_neg (by omega)] at hY)
            subst hX hY
            first
              | (rw [if_pos (by omega)]; simp; done)
              | (rw [if_pos (by omega)]; simp; omega)
              | (rw [if_neg (by omega)]; simp; done)
              | (rw [if_neg (by omega)]; simp; omega)

theorem Lower.rows (l : List Int) (h : ∀ p ∈ l, YtphjfenhnhfakaaDoorPts.isP p) : (List.range l.length).map (impl_lower.one l) = (List.range l.length).map (spec_Lower.one l) := by
  apply List.map_congr_left
  intro i hi
  have hi := List.mem_range.1 hi
  have hp := h l[i] (List.getElem_mem hi)
  have hr : rd l (i : Int) = l[i] := by simp [rd, List.getD, hi]
  unfold YtphjfenhnhfakaaDoorPts.isP at hp
  unfold impl_lower.one spec_Lower.one
  rw [hr, Lower.same _ hp.1 hp.2.1]

theorem FnExactLower : laws_FnExactLower.Pure := by
  intro a0 hm
  unfold laws_FnExactLower.f
  by_cases big : (a0.size : Int) > 1048576
  · rw [if_pos big]
  · rw [if_neg big]
    have e : ∃ t, impl_Lower.f a0 = some t ∧ W_spec_Lower.f a0 = some t := by
      unfold impl_Lower.f W_spec_Lower.f
      by_cases c : (a0.size : Int) > 65536
      · rw [if_pos c, if_pos c]; exact ⟨_, rfl, rfl⟩
      · rw [if_neg c, if_neg c]
        unfold W_impl_points.f
        rw [if_pos (by omega)]
        simp only [Option.bind_some]
        have hp := YtphjfenhnhfakaaDoorPts.pts_isP _ (bytesOf a0) (Nat.le_refl _)
        have hl := YtphjfenhnhfakaaDoorPts.pts_length _ (bytesOf a0) (Nat.le_refl _)
        rw [bytesOf_length] at hl
        obtain ⟨l, hle⟩ : ∃ l, YtphjfenhnhfakaaDoorPts.pts (bytesOf a0) = l := ⟨_, rfl⟩
        rw [hle] at hp hl ⊢
        unfold W_impl_lower.f
        rw [if_pos ⟨by omega, hp⟩]
        simp only [Option.bind_some]
        unfold W_impl_write.f
        rw [if_pos (by rw [List.length_map, List.length_range]; omega), Lower.rows l hp]
        simp only [Option.bind_some]
        unfold impl_short.f impl_long.f spec_Lower.small
        simp only [Option.bind_some]
        obtain ⟨X, hX⟩ : ∃ X, strOfNums (YtphjfenhnhfakaaDoorPts.encs ((List.range l.length).map (spec_Lower.one l))) = X := ⟨_, rfl⟩
        rw [hX]
        by_cases d : (X.size : Int) > 65536
        · rw [if_pos (decide_eq_true d), if_pos (by omega)]; exact ⟨_, rfl, rfl⟩
        · rw [if_neg (by simpa using d), if_neg (by omega)]; exact ⟨_, rfl, rfl⟩
    obtain ⟨t, h1, h2⟩ := e
    rw [h1, h2]
    simp

end Go.Proofs.YtphjfenhnhfakaaDoor.Pure
