/- The law FnExactSimpleLower in plain Lean: the reference's and the program's letter are the same, at every number. -/
import Derived.Test.YtphjfenhnhfakaaQFnExactSimpleLowerx1
namespace Go.Proofs.Ytphjfenhnhfakaa.Pure
open Go.RowKit Go.Proofs.Ytphjfenhnhfakaa.QFnExactSimpleLower Go.Proofs.YtphjfenhnhfakaaW.PrintWords Go.Proofs.YtphjfenhnhfakaaW.PrintLast

theorem kind_4 {p : Int} (h : 8192 ≤ p ∧ p ≤ 9631) : (impl_kind.g p).1 = if (p - 8192) % 512 < 416 then (if (p - 8192) % 512 < 208 then 4 else 5) else 0 := by
  unfold impl_kind.g
  by_cases c : (p - 8192) % 512 < 416
  · by_cases d : (p - 8192) % 512 < 208
    · repeat (first | rw [if_pos (by omega)] | rw [if_neg (by omega)])
    · repeat (first | rw [if_pos (by omega)] | rw [if_neg (by omega)])
  · repeat (first | rw [if_pos (by omega)] | rw [if_neg (by omega)])

theorem same (p : Int) (h0 : 0 ≤ p) (h1 : p ≤ 1114111) : spec_l06Lower.g p = (impl_cases.g p).2.2 := by
  unfold spec_l06Lower.g
  by_cases a : 512 ≤ p ∧ p < 1280
  · skip
    by_cases c : p % 256 < 64
    · skip
      obtain ⟨X, hX⟩ : ∃ x, spec_l06Three.g p = x := ⟨_, rfl⟩
      obtain ⟨Y, hY⟩ : ∃ x, impl_cases.g p = x := ⟨_, rfl⟩
      rw [hX, hY]
      unfold spec_l06Three.g at hX
      unfold impl_cases.g at hY
      try rw [kind_4 b] at hY
      repeat (first | rw [if_pos (by omega)] at hX | rw [if_neg (by omega)] at hX)
      repeat (first | rw [if_pos (by omega)] at hY | rw [if_neg (by omega)] at hY)
      subst hX hY
      first
        | (rw [if_pos (by omega)]; simp; done)
        | (rw [if_pos (by omega)]; simp; omega)
        | (rw [if_neg (by omega)]; simp; done)
        | (rw [if_neg (by omega)]; simp; omega)
    · skip
      by_cases d : p % 256 < 76
      · skip
        obtain ⟨X, hX⟩ : ∃ x, spec_l06Three.g p = x := ⟨_, rfl⟩
        obtain ⟨Y, hY⟩ : ∃ x, impl_cases.g p = x := ⟨_, rfl⟩
        rw [hX, hY]
        unfold spec_l06Three.g at hX
        unfold impl_cases.g at hY
        try rw [kind_4 b] at hY
        repeat (first | rw [if_pos (by omega)] at hX | rw [if_neg (by omega)] at hX)
        repeat (first | rw [if_pos (by omega)] at hY | rw [if_neg (by omega)] at hY)
        subst hX hY
        first
          | (rw [if_pos (by omega)]; simp; done)
          | (rw [if_pos (by omega)]; simp; omega)
          | (rw [if_neg (by omega)]; simp; done)
          | (rw [if_neg (by omega)]; simp; omega)
      · skip
        by_cases e : p % 256 = 97
        · skip
          obtain ⟨X, hX⟩ : ∃ x, spec_l06Three.g p = x := ⟨_, rfl⟩
          obtain ⟨Y, hY⟩ : ∃ x, impl_cases.g p = x := ⟨_, rfl⟩
          rw [hX, hY]
          unfold spec_l06Three.g at hX
          unfold impl_cases.g at hY
          try rw [kind_4 b] at hY
          repeat (first | rw [if_pos (by omega)] at hX | rw [if_neg (by omega)] at hX)
          repeat (first | rw [if_pos (by omega)] at hY | rw [if_neg (by omega)] at hY)
          subst hX hY
          first
            | (rw [if_pos (by omega)]; simp; done)
            | (rw [if_pos (by omega)]; simp; omega)
            | (rw [if_neg (by omega)]; simp; done)
            | (rw [if_neg (by omega)]; simp; omega)
        · skip
          obtain ⟨X, hX⟩ : ∃ x, spec_l06Three.g p = x := ⟨_, rfl⟩
          obtain ⟨Y, hY⟩ : ∃ x, impl_cases.g p = x := ⟨_, rfl⟩
          rw [hX, hY]
          unfold spec_l06Three.g at hX
          unfold impl_cases.g at hY
          try rw [kind_4 b] at hY
          repeat (first | rw [if_pos (by omega)] at hX | rw [if_neg (by omega)] at hX)
          repeat (first | rw [if_pos (by omega)] at hY | rw [if_neg (by omega)] at hY)
          subst hX hY
          first
            | (rw [if_pos (by omega)]; simp; done)
            | (rw [if_pos (by omega)]; simp; omega)
            | (rw [if_neg (by omega)]; simp; done)
            | (rw [if_neg (by omega)]; simp; omega)
  · skip
    by_cases b : 8192 ≤ p ∧ p ≤ 9631
    · skip
      by_cases c : (p - 8192) % 512 < 416
      · skip
        by_cases d : (p - 8192) % 512 < 208
        · skip
          obtain ⟨X, hX⟩ : ∃ x, spec_l06Three.g p = x := ⟨_, rfl⟩
          obtain ⟨Y, hY⟩ : ∃ x, impl_cases.g p = x := ⟨_, rfl⟩
          rw [hX, hY]
          unfold spec_l06Three.g at hX
          unfold impl_cases.g at hY
          try rw [kind_4 b] at hY
          repeat (first | rw [if_pos (by omega)] at hX | rw [if_neg (by omega)] at hX)
          repeat (first | rw [if_pos (by omega)] at hY | rw [if_neg (by omega)] at hY)
          subst hX hY
          first
            | (rw [if_pos (by omega)]; simp; done)
            | (rw [if_pos (by omega)]; simp; omega)
            | (rw [if_neg (by omega)]; simp; done)
            | (rw [if_neg (by omega)]; simp; omega)
        · skip
          obtain ⟨X, hX⟩ : ∃ x, spec_l06Three.g p = x := ⟨_, rfl⟩
          obtain ⟨Y, hY⟩ : ∃ x, impl_cases.g p = x := ⟨_, rfl⟩
          rw [hX, hY]
          unfold spec_l06Three.g at hX
          unfold impl_cases.g at hY
          try rw [kind_4 b] at hY
          repeat (first | rw [if_pos (by omega)] at hX | rw [if_neg (by omega)] at hX)
          repeat (first | rw [if_pos (by omega)] at hY | rw [if_neg (by omega)] at hY)
          subst hX hY
          first
            | (rw [if_pos (by omega)]; simp; done)
            | (rw [if_pos (by omega)]; simp; omega)
            | (rw [if_neg (by omega)]; simp; done)
            | (rw [if_neg (by omega)]; simp; omega)
      · skip
        obtain ⟨X, hX⟩ : ∃ x, spec_l06Three.g p = x := ⟨_, rfl⟩
        obtain ⟨Y, hY⟩ : ∃ x, impl_cases.g p = x := ⟨_, rfl⟩
        rw [hX, hY]
        unfold spec_l06Three.g at hX
        unfold impl_cases.g at hY
        try rw [kind_4 b] at hY
        repeat (first | rw [if_pos (by omega)] at hX | rw [if_neg (by omega)] at hX)
        repeat (first | rw [if_pos (by omega)] at hY | rw [if_neg (by omega)] at hY)
        subst hX hY
        first
          | (rw [if_pos (by omega)]; simp; done)
          | (rw [if_pos (by omega)]; simp; omega)
          | (rw [if_neg (by omega)]; simp; done)
          | (rw [if_neg (by omega)]; simp; omega)
    · skip
      by_cases c : 65 ≤ p ∧ p ≤ 90
      · skip
        obtain ⟨X, hX⟩ : ∃ x, spec_l06Three.g p = x := ⟨_, rfl⟩
        obtain ⟨Y, hY⟩ : ∃ x, impl_cases.g p = x := ⟨_, rfl⟩
        rw [hX, hY]
        unfold spec_l06Three.g at hX
        unfold impl_cases.g at hY
        try rw [kind_4 b] at hY
        repeat (first | rw [if_pos (by omega)] at hX | rw [if_neg (by omega)] at hX)
        repeat (first | rw [if_pos (by omega)] at hY | rw [if_neg (by omega)] at hY)
        subst hX hY
        first
          | (rw [if_pos (by omega)]; simp; done)
          | (rw [if_pos (by omega)]; simp; omega)
          | (rw [if_neg (by omega)]; simp; done)
          | (rw [if_neg (by omega)]; simp; omega)
      · skip
        by_cases d : 97 ≤ p ∧ p ≤ 122
        · skip
          obtain ⟨X, hX⟩ : ∃ x, spec_l06Three.g p = x := ⟨_, rfl⟩
          obtain ⟨Y, hY⟩ : ∃ x, impl_cases.g p = x := ⟨_, rfl⟩
          rw [hX, hY]
          unfold spec_l06Three.g at hX
          unfold impl_cases.g at hY
          try rw [kind_4 b] at hY
          repeat (first | rw [if_pos (by omega)] at hX | rw [if_neg (by omega)] at hX)
          repeat (first | rw [if_pos (by omega)] at hY | rw [if_neg (by omega)] at hY)
          subst hX hY
          first
            | (rw [if_pos (by omega)]; simp; done)
            | (rw [if_pos (by omega)]; simp; omega)
            | (rw [if_neg (by omega)]; simp; done)
            | (rw [if_neg (by omega)]; simp; omega)
        · skip
          by_cases e : 9728 ≤ p ∧ p ≤ 9753
          · skip
            obtain ⟨X, hX⟩ : ∃ x, spec_l06Three.g p = x := ⟨_, rfl⟩
            obtain ⟨Y, hY⟩ : ∃ x, impl_cases.g p = x := ⟨_, rfl⟩
            rw [hX, hY]
            unfold spec_l06Three.g at hX
            unfold impl_cases.g at hY
            try rw [kind_4 b] at hY
            repeat (first | rw [if_pos (by omega)] at hX | rw [if_neg (by omega)] at hX)
            repeat (first | rw [if_pos (by omega)] at hY | rw [if_neg (by omega)] at hY)
            subst hX hY
            first
              | (rw [if_pos (by omega)]; simp; done)
              | (rw [if_pos (by omega)]; simp; omega)
              | (rw [if_neg (by omega)]; simp; done)
              | (rw [if_neg (by omega)]; simp; omega)
          · skip
            obtain ⟨X, hX⟩ : ∃ x, spec_l06Three.g p = x := ⟨_, rfl⟩
            obtain ⟨Y, hY⟩ : ∃ x, impl_cases.g p = x := ⟨_, rfl⟩
            rw [hX, hY]
            unfold spec_l06Three.g at hX
            unfold impl_cases.g at hY
            try rw [kind_4 b] at hY
            repeat (first | rw [if_pos (by omega)] at hX | rw [if_neg (by omega)] at hX)
            repeat (first | rw [if_pos (by omega)] at hY | rw [if_neg (by omega)] at hY)
            subst hX hY
            first
              | (rw [if_pos (by omega)]; simp; done)
              | (rw [if_pos (by omega)]; simp; omega)
              | (rw [if_neg (by omega)]; simp; done)
              | (rw [if_neg (by omega)]; simp; omega)

theorem FnExactSimpleLower : laws_FnExactSimpleLower.Pure := by
  intro p _
  skip
  unfold laws_FnExactSimpleLower.f spec_SimpleLower.f impl_SimpleLower.f
  have e : impl_isPoint.f p = spec_l01IsPoint.f p := rfl
  rw [e]
  by_cases h0 : 0 ≤ p
  · by_cases h1 : p ≤ 1114111
    · obtain ⟨b, hb⟩ : ∃ b, spec_l01IsPoint.f p = some b := by
        unfold spec_l01IsPoint.f
        rw [if_pos h0, if_pos h1]
        split <;> exact ⟨_, rfl⟩
      rw [hb]
      cases b with
      | false => simp
      | true =>
        simp only [Option.bind_some, if_true]
        unfold spec_l06Lower.f impl_cases.f
        rw [if_pos ⟨h0, h1⟩, if_pos ⟨h0, h1⟩]
        simp only [Option.bind_some]
        rw [same p h0 h1, if_pos rfl]
    · have hb : spec_l01IsPoint.f p = some false := by
        unfold spec_l01IsPoint.f
        rw [if_pos h0, if_neg h1]
      rw [hb]; simp
  · have hb : spec_l01IsPoint.f p = some false := by
      unfold spec_l01IsPoint.f
      rw [if_neg h0]
    rw [hb]; simp

end Go.Proofs.Ytphjfenhnhfakaa.Pure
