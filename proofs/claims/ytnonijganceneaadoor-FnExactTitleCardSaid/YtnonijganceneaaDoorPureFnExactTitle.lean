/- The law FnExactTitle in plain Lean: the reference's and the program's title text are the same, at every input. -/
import Derived.Test.YtnonijganceneaaDoorQFnExactTitlex12
namespace Go.Proofs.YtnonijganceneaaDoor.Pure
open Go.RowKit Go.Proofs.YtnonijganceneaaDoor.QFnExactTitle Go.Proofs.YtnonijganceneaaDoorW.PrintWords Go.Proofs.YtnonijganceneaaDoorW.PrintLast

theorem Title.kind_4 {p : Int} (h : 8192 ≤ p ∧ p ≤ 9631) : (impl_kind.g p).1 = if (p - 8192) % 512 < 416 then (if (p - 8192) % 512 < 208 then 4 else 5) else 0 := by
  unfold impl_kind.g
  by_cases c : (p - 8192) % 512 < 416
  · by_cases d : (p - 8192) % 512 < 208
    · repeat (first | rw [if_pos (by omega)] | rw [if_neg (by omega)])
    · repeat (first | rw [if_pos (by omega)] | rw [if_neg (by omega)])
  · repeat (first | rw [if_pos (by omega)] | rw [if_neg (by omega)])

theorem Title.low (p : Int) (h0 : 0 ≤ p) (h1 : p ≤ 1114111) : spec_l06Lower.g p = (impl_cases.g p).2.2 := by
  unfold spec_l06Lower.g
  by_cases a : 512 ≤ p ∧ p < 1280
  · skip
    by_cases c : p % 256 < 64
    · skip
      obtain ⟨X, hX⟩ : ∃ x, spec_l06Three.g p = x := ⟨_, rfl⟩
      obtain ⟨Y, hY⟩ : ∃ x, impl_cases.g p = x := ⟨_, rfl⟩
      rw [hX, hY]
      unfold spec_l06Three.g at hX
      unfold impl_cases.g at hY
      try rw [Title.kind_4 b] at hY
      repeat (first | rw [if_pos (by omega)] at hX | rw [if_neg (by omega)] at hX)
      repeat (first | rw [if_pos (by omega)] at hY | rw [if_neg (by omega)] at hY)
      subst hX hY
      first
        | (rw [if_pos (by omega)]; simp; done)
        | (rw [if_pos (by omega)]; simp; omega)
        | (rw [if_neg (by omega)]; simp; done)
        | (rw [if_neg (by omega)]; simp; omega)
    · skip
      by_cases d : p % 256 < 76
      · skip
        obtain ⟨X, hX⟩ : ∃ x, spec_l06Three.g p = x := ⟨_, rfl⟩
        obtain ⟨Y, hY⟩ : ∃ x, impl_cases.g p = x := ⟨_, rfl⟩
        rw [hX, hY]
        unfold spec_l06Three.g at hX
        unfold impl_cases.g at hY
        try rw [Title.kind_4 b] at hY
        repeat (first | rw [if_pos (by omega)] at hX | rw [if_neg (by omega)] at hX)
        repeat (first | rw [if_pos (by omega)] at hY | rw [if_neg (by omega)] at hY)
        subst hX hY
        first
          | (rw [if_pos (by omega)]; simp; done)
          | (rw [if_pos (by omega)]; simp; omega)
          | (rw [if_neg (by omega)]; simp; done)
          | (rw [if_neg (by omega)]; simp; omega)
      · skip
        by_cases e : p % 256 = 97
        · skip
          obtain ⟨X, hX⟩ : ∃ x, spec_l06Three.g p = x := ⟨_, rfl⟩
          obtain ⟨Y, hY⟩ : ∃ x, impl_cases.g p = x := ⟨_, rfl⟩
          rw [hX, hY]
          unfold spec_l06Three.g at hX
          unfold impl_cases.g at hY
          try rw [Title.kind_4 b] at hY
          repeat (first | rw [if_pos (by omega)] at hX | rw [if_neg (by omega)] at hX)
          repeat (first | rw [if_pos (by omega)] at hY | rw [if_neg (by omega)] at hY)
          subst hX hY
          first
            | (rw [if_pos (by omega)]; simp; done)
            | (rw [if_pos (by omega)]; simp; omega)
            | (rw [if_neg (by omega)]; simp; done)
            | (rw [if_neg (by omega)]; simp; omega)
        · skip
          obtain ⟨X, hX⟩ : ∃ x, spec_l06Three.g p = x := ⟨_, rfl⟩
          obtain ⟨Y, hY⟩ : ∃ x, impl_cases.g p = x := ⟨_, rfl⟩
          rw [hX, hY]
          unfold spec_l06Three.g at hX
          unfold impl_cases.g at hY
          try rw [Title.kind_4 b] at hY
          repeat (first | rw [if_pos (by omega)] at hX | rw [if_neg (by omega)] at hX)
          repeat (first | rw [if_pos (by omega)] at hY | rw [if_neg (by omega)] at hY)
          subst hX hY
          first
            | (rw [if_pos (by omega)]; simp; done)
            | (rw [if_pos (by omega)]; simp; omega)
            | (rw [if_neg (by omega)]; simp; done)
            | (rw [if_neg (by omega)]; simp; omega)
  · skip
    by_cases b : 8192 ≤ p ∧ p ≤ 9631
    · skip
      by_cases c : (p - 8192) % 512 < 416
      · skip
        by_cases d : (p - 8192) % 512 < 208
        · skip
          obtain ⟨X, hX⟩ : ∃ x, spec_l06Three.g p = x := ⟨_, rfl⟩
          obtain ⟨Y, hY⟩ : ∃ x, impl_cases.g p = x := ⟨_, rfl⟩
          rw [hX, hY]
          unfold spec_l06Three.g at hX
          unfold impl_cases.g at hY
          try rw [Title.kind_4 b] at hY
          repeat (first | rw [if_pos (by omega)] at hX | rw [if_neg (by omega)] at hX)
          repeat (first | rw [if_pos (by omega)] at hY | rw [if_neg (by omega)] at hY)
          subst hX hY
          first
            | (rw [if_pos (by omega)]; simp; done)
            | (rw [if_pos (by omega)]; simp; omega)
            | (rw [if_neg (by omega)]; simp; done)
            | (rw [if_neg (by omega)]; simp; omega)
        · skip
          obtain ⟨X, hX⟩ : ∃ x, spec_l06Three.g p = x := ⟨_, rfl⟩
          obtain ⟨Y, hY⟩ : ∃ x, impl_cases.g p = x := ⟨_, rfl⟩
          rw [hX, hY]
          unfold spec_l06Three.g at hX
          unfold impl_cases.g at hY
          try rw [Title.kind_4 b] at hY
          repeat (first | rw [if_pos (by omega)] at hX | rw [if_neg (by omega)] at hX)
          repeat (first | rw [if_pos (by omega)] at hY | rw [if_neg (by omega)] at hY)
          subst hX hY
          first
            | (rw [if_pos (by omega)]; simp; done)
            | (rw [if_pos (by omega)]; simp; omega)
            | (rw [if_neg (by omega)]; simp; done)
            | (rw [if_neg (by omega)]; simp; omega)
      · skip
        obtain ⟨X, hX⟩ : ∃ x, spec_l06Three.g p = x := ⟨_, rfl⟩
        obtain ⟨Y, hY⟩ : ∃ x, impl_cases.g p = x := ⟨_, rfl⟩
        rw [hX, hY]
        unfold spec_l06Three.g at hX
        unfold impl_cases.g at hY
        try rw [Title.kind_4 b] at hY
        repeat (first | rw [if_pos (by omega)] at hX | rw [if_neg (by omega)] at hX)
        repeat (first | rw [if_pos (by omega)] at hY | rw [if_neg (by omega)] at hY)
        subst hX hY
        first
          | (rw [if_pos (by omega)]; simp; done)
          | (rw [if_pos (by omega)]; simp; omega)
          | (rw [if_neg (by omega)]; simp; done)
          | (rw [if_neg (by omega)]; simp; omega)
    · skip
      by_cases c : 65 ≤ p ∧ p ≤ 90
      · skip
        obtain ⟨X, hX⟩ : ∃ x, spec_l06Three.g p = x := ⟨_, rfl⟩
        obtain ⟨Y, hY⟩ : ∃ x, impl_cases.g p = x := ⟨_, rfl⟩
        rw [hX, hY]
        unfold spec_l06Three.g at hX
        unfold impl_cases.g at hY
        try rw [Title.kind_4 b] at hY
        repeat (first | rw [if_pos (by omega)] at hX | rw [if_neg (by omega)] at hX)
        repeat (first | rw [if_pos (by omega)] at hY | rw [if_neg (by omega)] at hY)
        subst hX hY
        first
          | (rw [if_pos (by omega)]; simp; done)
          | (rw [if_pos (by omega)]; simp; omega)
          | (rw [if_neg (by omega)]; simp; done)
          | (rw [if_neg (by omega)]; simp; omega)
      · skip
        by_cases d : 97 ≤ p ∧ p ≤ 122
        · skip
          obtain ⟨X, hX⟩ : ∃ x, spec_l06Three.g p = x := ⟨_, rfl⟩
          obtain ⟨Y, hY⟩ : ∃ x, impl_cases.g p = x := ⟨_, rfl⟩
          rw [hX, hY]
          unfold spec_l06Three.g at hX
          unfold impl_cases.g at hY
          try rw [Title.kind_4 b] at hY
          repeat (first | rw [if_pos (by omega)] at hX | rw [if_neg (by omega)] at hX)
          repeat (first | rw [if_pos (by omega)] at hY | rw [if_neg (by omega)] at hY)
          subst hX hY
          first
            | (rw [if_pos (by omega)]; simp; done)
            | (rw [if_pos (by omega)]; simp; omega)
            | (rw [if_neg (by omega)]; simp; done)
            | (rw [if_neg (by omega)]; simp; omega)
        · skip
          by_cases e : 9728 ≤ p ∧ p ≤ 9753
          · skip
            obtain ⟨X, hX⟩ : ∃ x, spec_l06Three.g p = x := ⟨_, rfl⟩
            obtain ⟨Y, hY⟩ : ∃ x, impl_cases.g p = x := ⟨_, rfl⟩
            rw [hX, hY]
            unfold spec_l06Three.g at hX
            unfold impl_cases.g at hY
            try rw [Title.kind_4 b] at hY
            repeat (first | rw [if_pos (by omega)] at hX | rw [if_neg (by omega)] at hX)
            repeat (first | rw [if_pos (by omega)] at hY | rw [if_neg (by omega)] at hY)
            subst hX hY
            first
              | (rw [if_pos (by omega)]; simp; done)
              | (rw [if_pos (by omega)]; simp; omega)
              | (rw [if_neg (by omega)]; simp; done)
              | (rw [if_neg (by omega)]; simp; omega)
          · skip
            obtain ⟨X, hX⟩ : ∃ x, spec_l06Three.g p = x := ⟨_, rfl⟩
            obtain ⟨Y, hY⟩ : ∃ x, impl_cases.g p = x := ⟨_, rfl⟩
            rw [hX, hY]
            unfold spec_l06Three.g at hX
            unfold impl_cases.g at hY
            try rw [Title.kind_4 b] at hY
            repeat (first | rw [if_pos (by omega)] at hX | rw [if_neg (by omega)] at hX)
            repeat (first | rw [if_pos (by omega)] at hY | rw [if_neg (by omega)] at hY)
            subst hX hY
            first
              | (rw [if_pos (by omega)]; simp; done)
              | (rw [if_pos (by omega)]; simp; omega)
              | (rw [if_neg (by omega)]; simp; done)
              | (rw [if_neg (by omega)]; simp; omega)

theorem Title.up (p : Int) (h0 : 0 ≤ p) (h1 : p ≤ 1114111) : spec_l06Up.g p 1 = (impl_cases.g p).2.1 := by
  unfold spec_l06Up.g
  by_cases a : 512 ≤ p ∧ p < 1280
  · skip
    by_cases c : p % 256 < 64
    · skip
      obtain ⟨X, hX⟩ : ∃ x, spec_l06Three.g p = x := ⟨_, rfl⟩
      obtain ⟨Y, hY⟩ : ∃ x, impl_cases.g p = x := ⟨_, rfl⟩
      obtain ⟨Z, hZ⟩ : ∃ x, spec_l06Up.b p = x := ⟨_, rfl⟩
      rw [hX, hY, hZ]
      unfold spec_l06Three.g at hX
      unfold impl_cases.g at hY
      unfold spec_l06Up.b at hZ
      try rw [Title.kind_4 b] at hY
      repeat (first | rw [if_pos (by omega)] at hX | rw [if_neg (by omega)] at hX)
      repeat (first | rw [if_pos (by omega)] at hY | rw [if_neg (by omega)] at hY)
      repeat (first | rw [if_pos (by omega)] at hZ | rw [if_neg (by omega)] at hZ)
      subst hX hY hZ
      first
        | (rw [if_pos (by omega)]; simp; done)
        | (rw [if_pos (by omega)]; simp; omega)
        | (rw [if_neg (by omega)]; simp; done)
        | (rw [if_neg (by omega)]; simp; omega)
    · skip
      by_cases d : p % 256 < 76
      · skip
        obtain ⟨X, hX⟩ : ∃ x, spec_l06Three.g p = x := ⟨_, rfl⟩
        obtain ⟨Y, hY⟩ : ∃ x, impl_cases.g p = x := ⟨_, rfl⟩
        obtain ⟨Z, hZ⟩ : ∃ x, spec_l06Up.b p = x := ⟨_, rfl⟩
        rw [hX, hY, hZ]
        unfold spec_l06Three.g at hX
        unfold impl_cases.g at hY
        unfold spec_l06Up.b at hZ
        try rw [Title.kind_4 b] at hY
        repeat (first | rw [if_pos (by omega)] at hX | rw [if_neg (by omega)] at hX)
        repeat (first | rw [if_pos (by omega)] at hY | rw [if_neg (by omega)] at hY)
        repeat (first | rw [if_pos (by omega)] at hZ | rw [if_neg (by omega)] at hZ)
        subst hX hY hZ
        first
          | (rw [if_pos (by omega)]; simp; done)
          | (rw [if_pos (by omega)]; simp; omega)
          | (rw [if_neg (by omega)]; simp; done)
          | (rw [if_neg (by omega)]; simp; omega)
      · skip
        by_cases e : p % 256 = 97
        · skip
          obtain ⟨X, hX⟩ : ∃ x, spec_l06Three.g p = x := ⟨_, rfl⟩
          obtain ⟨Y, hY⟩ : ∃ x, impl_cases.g p = x := ⟨_, rfl⟩
          obtain ⟨Z, hZ⟩ : ∃ x, spec_l06Up.b p = x := ⟨_, rfl⟩
          rw [hX, hY, hZ]
          unfold spec_l06Three.g at hX
          unfold impl_cases.g at hY
          unfold spec_l06Up.b at hZ
          try rw [Title.kind_4 b] at hY
          repeat (first | rw [if_pos (by omega)] at hX | rw [if_neg (by omega)] at hX)
          repeat (first | rw [if_pos (by omega)] at hY | rw [if_neg (by omega)] at hY)
          repeat (first | rw [if_pos (by omega)] at hZ | rw [if_neg (by omega)] at hZ)
          subst hX hY hZ
          first
            | (rw [if_pos (by omega)]; simp; done)
            | (rw [if_pos (by omega)]; simp; omega)
            | (rw [if_neg (by omega)]; simp; done)
            | (rw [if_neg (by omega)]; simp; omega)
        · skip
          obtain ⟨X, hX⟩ : ∃ x, spec_l06Three.g p = x := ⟨_, rfl⟩
          obtain ⟨Y, hY⟩ : ∃ x, impl_cases.g p = x := ⟨_, rfl⟩
          obtain ⟨Z, hZ⟩ : ∃ x, spec_l06Up.b p = x := ⟨_, rfl⟩
          rw [hX, hY, hZ]
          unfold spec_l06Three.g at hX
          unfold impl_cases.g at hY
          unfold spec_l06Up.b at hZ
          try rw [Title.kind_4 b] at hY
          repeat (first | rw [if_pos (by omega)] at hX | rw [if_neg (by omega)] at hX)
          repeat (first | rw [if_pos (by omega)] at hY | rw [if_neg (by omega)] at hY)
          repeat (first | rw [if_pos (by omega)] at hZ | rw [if_neg (by omega)] at hZ)
          subst hX hY hZ
          first
            | (rw [if_pos (by omega)]; simp; done)
            | (rw [if_pos (by omega)]; simp; omega)
            | (rw [if_neg (by omega)]; simp; done)
            | (rw [if_neg (by omega)]; simp; omega)
  · skip
    by_cases b : 8192 ≤ p ∧ p ≤ 9631
    · skip
      by_cases c : (p - 8192) % 512 < 416
      · skip
        by_cases d : (p - 8192) % 512 < 208
        · skip
          obtain ⟨X, hX⟩ : ∃ x, spec_l06Three.g p = x := ⟨_, rfl⟩
          obtain ⟨Y, hY⟩ : ∃ x, impl_cases.g p = x := ⟨_, rfl⟩
          obtain ⟨Z, hZ⟩ : ∃ x, spec_l06Up.b p = x := ⟨_, rfl⟩
          rw [hX, hY, hZ]
          unfold spec_l06Three.g at hX
          unfold impl_cases.g at hY
          unfold spec_l06Up.b at hZ
          try rw [Title.kind_4 b] at hY
          repeat (first | rw [if_pos (by omega)] at hX | rw [if_neg (by omega)] at hX)
          repeat (first | rw [if_pos (by omega)] at hY | rw [if_neg (by omega)] at hY)
          repeat (first | rw [if_pos (by omega)] at hZ | rw [if_neg (by omega)] at hZ)
          subst hX hY hZ
          first
            | (rw [if_pos (by omega)]; simp; done)
            | (rw [if_pos (by omega)]; simp; omega)
            | (rw [if_neg (by omega)]; simp; done)
            | (rw [if_neg (by omega)]; simp; omega)
        · skip
          obtain ⟨X, hX⟩ : ∃ x, spec_l06Three.g p = x := ⟨_, rfl⟩
          obtain ⟨Y, hY⟩ : ∃ x, impl_cases.g p = x := ⟨_, rfl⟩
          obtain ⟨Z, hZ⟩ : ∃ x, spec_l06Up.b p = x := ⟨_, rfl⟩
          rw [hX, hY, hZ]
          unfold spec_l06Three.g at hX
          unfold impl_cases.g at hY
          unfold spec_l06Up.b at hZ
          try rw [Title.kind_4 b] at hY
          repeat (first | rw [if_pos (by omega)] at hX | rw [if_neg (by omega)] at hX)
          repeat (first | rw [if_pos (by omega)] at hY | rw [if_neg (by omega)] at hY)
          repeat (first | rw [if_pos (by omega)] at hZ | rw [if_neg (by omega)] at hZ)
          subst hX hY hZ
          first
            | (rw [if_pos (by omega)]; simp; done)
            | (rw [if_pos (by omega)]; simp; omega)
            | (rw [if_neg (by omega)]; simp; done)
            | (rw [if_neg (by omega)]; simp; omega)
      · skip
        obtain ⟨X, hX⟩ : ∃ x, spec_l06Three.g p = x := ⟨_, rfl⟩
        obtain ⟨Y, hY⟩ : ∃ x, impl_cases.g p = x := ⟨_, rfl⟩
        obtain ⟨Z, hZ⟩ : ∃ x, spec_l06Up.b p = x := ⟨_, rfl⟩
        rw [hX, hY, hZ]
        unfold spec_l06Three.g at hX
        unfold impl_cases.g at hY
        unfold spec_l06Up.b at hZ
        try rw [Title.kind_4 b] at hY
        repeat (first | rw [if_pos (by omega)] at hX | rw [if_neg (by omega)] at hX)
        repeat (first | rw [if_pos (by omega)] at hY | rw [if_neg (by omega)] at hY)
        repeat (first | rw [if_pos (by omega)] at hZ | rw [if_neg (by omega)] at hZ)
        subst hX hY hZ
        first
          | (rw [if_pos (by omega)]; simp; done)
          | (rw [if_pos (by omega)]; simp; omega)
          | (rw [if_neg (by omega)]; simp; done)
          | (rw [if_neg (by omega)]; simp; omega)
    · skip
      by_cases c : 65 ≤ p ∧ p ≤ 90
      · skip
        obtain ⟨X, hX⟩ : ∃ x, spec_l06Three.g p = x := ⟨_, rfl⟩
        obtain ⟨Y, hY⟩ : ∃ x, impl_cases.g p = x := ⟨_, rfl⟩
        obtain ⟨Z, hZ⟩ : ∃ x, spec_l06Up.b p = x := ⟨_, rfl⟩
        rw [hX, hY, hZ]
        unfold spec_l06Three.g at hX
        unfold impl_cases.g at hY
        unfold spec_l06Up.b at hZ
        try rw [Title.kind_4 b] at hY
        repeat (first | rw [if_pos (by omega)] at hX | rw [if_neg (by omega)] at hX)
        repeat (first | rw [if_pos (by omega)] at hY | rw [if_neg (by omega)] at hY)
        repeat (first | rw [if_pos (by omega)] at hZ | rw [if_neg (by omega)] at hZ)
        subst hX hY hZ
        first
          | (rw [if_pos (by omega)]; simp; done)
          | (rw [if_pos (by omega)]; simp; omega)
          | (rw [if_neg (by omega)]; simp; done)
          | (rw [if_neg (by omega)]; simp; omega)
      · skip
        by_cases d : 97 ≤ p ∧ p ≤ 122
        · skip
          obtain ⟨X, hX⟩ : ∃ x, spec_l06Three.g p = x := ⟨_, rfl⟩
          obtain ⟨Y, hY⟩ : ∃ x, impl_cases.g p = x := ⟨_, rfl⟩
          obtain ⟨Z, hZ⟩ : ∃ x, spec_l06Up.b p = x := ⟨_, rfl⟩
          rw [hX, hY, hZ]
          unfold spec_l06Three.g at hX
          unfold impl_cases.g at hY
          unfold spec_l06Up.b at hZ
          try rw [Title.kind_4 b] at hY
          repeat (first | rw [if_pos (by omega)] at hX | rw [if_neg (by omega)] at hX)
          repeat (first | rw [if_pos (by omega)] at hY | rw [if_neg (by omega)] at hY)
          repeat (first | rw [if_pos (by omega)] at hZ | rw [if_neg (by omega)] at hZ)
          subst hX hY hZ
          first
            | (rw [if_pos (by omega)]; simp; done)
            | (rw [if_pos (by omega)]; simp; omega)
            | (rw [if_neg (by omega)]; simp; done)
            | (rw [if_neg (by omega)]; simp; omega)
        · skip
          by_cases e : 9728 ≤ p ∧ p ≤ 9753
          · skip
            obtain ⟨X, hX⟩ : ∃ x, spec_l06Three.g p = x := ⟨_, rfl⟩
            obtain ⟨Y, hY⟩ : ∃ x, impl_cases.g p = x := ⟨_, rfl⟩
            obtain ⟨Z, hZ⟩ : ∃ x, spec_l06Up.b p = x := ⟨_, rfl⟩
            rw [hX, hY, hZ]
            unfold spec_l06Three.g at hX
            unfold impl_cases.g at hY
            unfold spec_l06Up.b at hZ
            try rw [Title.kind_4 b] at hY
            repeat (first | rw [if_pos (by omega)] at hX | rw [if_neg (by omega)] at hX)
            repeat (first | rw [if_pos (by omega)] at hY | rw [if_neg (by omega)] at hY)
            repeat (first | rw [if_pos (by omega)] at hZ | rw [if_neg (by omega)] at hZ)
            subst hX hY hZ
            first
              | (rw [if_pos (by omega)]; simp; done)
              | (rw [if_pos (by omega)]; simp; omega)
              | (rw [if_neg (by omega)]; simp; done)
              | (rw [if_neg (by omega)]; simp; omega)
          · skip
            obtain ⟨X, hX⟩ : ∃ x, spec_l06Three.g p = x := ⟨_, rfl⟩
            obtain ⟨Y, hY⟩ : ∃ x, impl_cases.g p = x := ⟨_, rfl⟩
            obtain ⟨Z, hZ⟩ : ∃ x, spec_l06Up.b p = x := ⟨_, rfl⟩
            rw [hX, hY, hZ]
            unfold spec_l06Three.g at hX
            unfold impl_cases.g at hY
            unfold spec_l06Up.b at hZ
            try rw [Title.kind_4 b] at hY
            repeat (first | rw [if_pos (by omega)] at hX | rw [if_neg (by omega)] at hX)
            repeat (first | rw [if_pos (by omega)] at hY | rw [if_neg (by omega)] at hY)
            repeat (first | rw [if_pos (by omega)] at hZ | rw [if_neg (by omega)] at hZ)
            subst hX hY hZ
            first
              | (rw [if_pos (by omega)]; simp; done)
              | (rw [if_pos (by omega)]; simp; omega)
              | (rw [if_neg (by omega)]; simp; done)
              | (rw [if_neg (by omega)]; simp; omega)

theorem Title.all (l : List Int) (h : ∀ p ∈ l, YtnonijganceneaaDoorPts.isP p) : impl_title.all l = spec_Title.all l := by
  unfold impl_title.all spec_Title.all
  rw [YtnonijganceneaaDoorCas.trun_congr l l.length]
  · intro i hi
    have hp := h l[i] (List.getElem_mem hi)
    have hr : rd l (i : Int) = l[i] := by simp [rd, List.getD, hi]
    unfold YtnonijganceneaaDoorPts.isP at hp
    unfold impl_lower.one spec_Title.one
    rw [hr, Title.low _ hp.1 hp.2.1]
  · intro i hi
    have hp := h l[i] (List.getElem_mem hi)
    have hr : rd l (i : Int) = l[i] := by simp [rd, List.getD, hi]
    unfold YtnonijganceneaaDoorPts.isP at hp
    unfold impl_title.ti spec_Title.ti
    rw [hr, Title.up _ hp.1 hp.2.1]

theorem FnExactTitle : laws_FnExactTitle.Pure := by
  intro a0 hm
  unfold laws_FnExactTitle.f
  by_cases big : (a0.size : Int) > 1048576
  · rw [if_pos big]
  · rw [if_neg big]
    have e : ∃ t, impl_Title.f a0 = some t ∧ W_spec_Title.f a0 = some t := by
      unfold impl_Title.f W_spec_Title.f
      by_cases c : (a0.size : Int) > 65536
      · rw [if_pos c, if_pos c]; exact ⟨_, rfl, rfl⟩
      · rw [if_neg c, if_neg c]
        unfold W_impl_points.f
        rw [if_pos (by omega)]
        simp only [Option.bind_some]
        have hp := YtnonijganceneaaDoorPts.pts_isP _ (bytesOf a0) (Nat.le_refl _)
        have hl := YtnonijganceneaaDoorPts.pts_length _ (bytesOf a0) (Nat.le_refl _)
        rw [bytesOf_length] at hl
        obtain ⟨l, hle⟩ : ∃ l, YtnonijganceneaaDoorPts.pts (bytesOf a0) = l := ⟨_, rfl⟩
        rw [hle] at hp hl ⊢
        unfold W_impl_title.f
        rw [if_pos ⟨by omega, hp⟩]
        simp only [Option.bind_some]
        unfold W_impl_write.f
        have hn := YtnonijganceneaaDoorCas.trun_length l (spec_Title.one l) spec_Title.ti l.length
        rw [Title.all l hp, if_pos (by unfold spec_Title.all; omega)]
        simp only [Option.bind_some]
        unfold impl_short.f impl_long.f spec_Title.small
        simp only [Option.bind_some]
        obtain ⟨X, hX⟩ : ∃ X, strOfNums (YtnonijganceneaaDoorPts.encs (spec_Title.all l)) = X := ⟨_, rfl⟩
        rw [hX]
        by_cases d : (X.size : Int) > 65536
        · rw [if_pos (decide_eq_true d), if_pos (by omega)]; exact ⟨_, rfl, rfl⟩
        · rw [if_neg (by simpa using d), if_neg (by omega)]; exact ⟨_, rfl, rfl⟩
    obtain ⟨t, h1, h2⟩ := e
    rw [h1, h2]
    simp

end Go.Proofs.YtnonijganceneaaDoor.Pure
