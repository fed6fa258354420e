/- A plain text of the law FnExactShowPasses, what the law uses of it, taken out by a program of this session's (wip/tool/prune.py). -/
import Derived.Test.YtiabgmddnddeiaaDoorVFnExactShowPassesPts
import Derived.Lib.ValidLaws
namespace Go.Proofs.YtiabgmddnddeiaaDoorVal
open Go.RowKit Go.Proofs.YtiabgmddnddeiaaDoorPts Go.Proofs.YtiabgmddnddeiaaDoorW.PrintWords
theorem getD_nat {l : List Int} (hb : ∀ b ∈ l, 0 ≤ b ∧ b < 256) (i : Nat) : ∃ c : Nat, l.getD i 0 = c ∧ c ≤ 255 := by
  by_cases h : i < l.length
  · have := hb _ (List.getElem_mem h)
    refine ⟨l[i].toNat, ?_, by omega⟩
    rw [List.getD_eq_getElem?_getD, List.getElem?_eq_getElem h]
    show l[i] = _
    omega
  · refine ⟨0, ?_, by omega⟩
    rw [List.getD_eq_getElem?_getD, List.getElem?_eq_none (by omega)]
    rfl
theorem take1 : ∀ {l : List Int}, 1 ≤ l.length → l.take 1 = [l.getD 0 0]
  | [], h => absurd h (by decide)
  | _ :: _, _ => rfl
theorem take2 : ∀ {l : List Int}, 2 ≤ l.length → l.take 2 = [l.getD 0 0, l.getD 1 0]
  | [], h => absurd h (by decide)
  | [_], h => absurd h (by simp)
  | _ :: _ :: _, _ => rfl
theorem take3 : ∀ {l : List Int}, 3 ≤ l.length → l.take 3 = [l.getD 0 0, l.getD 1 0, l.getD 2 0]
  | [], h => absurd h (by decide)
  | [_], h => absurd h (by simp)
  | [_, _], h => absurd h (by simp)
  | _ :: _ :: _ :: _, _ => rfl
theorem take4 : ∀ {l : List Int}, 4 ≤ l.length → l.take 4 = [l.getD 0 0, l.getD 1 0, l.getD 2 0, l.getD 3 0]
  | [], h => absurd h (by decide)
  | [_], h => absurd h (by simp)
  | [_, _], h => absurd h (by simp)
  | [_, _, _], h => absurd h (by simp)
  | _ :: _ :: _ :: _ :: _, _ => rfl
theorem head_enc {l : List Int} (hne : l ≠ []) (hb : ∀ b ∈ l, 0 ≤ b ∧ b < 256) (hv : ¬ ((dec l).1 = 65533 ∧ (dec l).2 = 1)) : l.take (dec l).2 = enc (dec l).1 := by
  have hl := List.length_pos_iff.2 hne
  obtain ⟨c0, e0, b0⟩ := getD_nat hb 0
  obtain ⟨c1, e1, b1⟩ := getD_nat hb 1
  obtain ⟨c2, e2, b2⟩ := getD_nat hb 2
  obtain ⟨c3, e3, b3⟩ := getD_nat hb 3
  have hp : fix (dec l).1 = (dec l).1 := fix_of (dec_bound hne).2.2.2
  unfold enc
  rw [hp]
  clear hp
  have hd : dec l = ((((Lib.decodeN l.length c0 c1 c2 c3).1 : Nat) : Int), (Lib.decodeN l.length c0 c1 c2 c3).2) := by
    unfold dec
    rw [e0, e1, e2, e3]
    simp only [Int.toNat_natCast]
  rw [hd] at hv ⊢
  clear hd
  by_cases a : c0 < 128
  · have e : Lib.decodeN l.length c0 c1 c2 c3 = (c0, 1) := by unfold Lib.decodeN; rw [if_pos a]
    rw [e]
    show l.take 1 = enc1 (c0 : Int)
    rw [take1 (by omega), e0]
    unfold enc1
    rw [if_pos (by omega)]
  by_cases b : 194 ≤ c0 ∧ c0 < 224
  · rw [decN_two _ _ _ _ _ b1 b.1 b.2] at hv ⊢
    by_cases c : 1 < l.length ∧ 128 ≤ c1 ∧ c1 ≤ 191
    · rw [if_pos c]
      obtain ⟨v, hv'⟩ : ∃ v, c0 % 32 * 64 + c1 % 64 = v := ⟨_, rfl⟩
      rw [hv']
      show l.take 2 = enc1 (v : Int)
      rw [take2 (by omega), e0, e1]
      unfold enc1
      rw [if_neg (by omega), if_pos (by omega)]
      have x0 : (c0 : Int) = 192 + (v : Int) / 64 := by omega
      have x1 : (c1 : Int) = 128 + (v : Int) % 64 := by omega
      rw [← x0, ← x1]
    · rw [if_neg c] at hv
      exact absurd ⟨rfl, rfl⟩ hv
  by_cases d : 224 ≤ c0 ∧ c0 < 240
  · rw [decN_three _ _ _ _ _ b1 b2 d.1 d.2] at hv ⊢
    split
    · rename_i c
      obtain ⟨v, hv'⟩ : ∃ v, c0 % 16 * 4096 + c1 % 64 * 64 + c2 % 64 = v := ⟨_, rfl⟩
      rw [hv'] at c ⊢
      show l.take 3 = enc1 (v : Int)
      rw [take3 (by omega), e0, e1, e2]
      unfold enc1
      rw [if_neg (by omega), if_neg (by omega), if_pos (by omega)]
      have x0 : (c0 : Int) = 224 + (v : Int) / 4096 := by omega
      have x1 : (c1 : Int) = 128 + (v : Int) / 64 % 64 := by omega
      have x2 : (c2 : Int) = 128 + (v : Int) % 64 := by omega
      rw [← x0, ← x1, ← x2]
    · rename_i c
      rw [if_neg c] at hv
      exact absurd ⟨rfl, rfl⟩ hv
  by_cases f : 240 ≤ c0 ∧ c0 < 245
  · rw [decN_four _ _ _ _ _ b1 b2 b3 f.1 f.2] at hv ⊢
    split
    · rename_i c
      obtain ⟨v, hv'⟩ : ∃ v, c0 % 8 * 262144 + c1 % 64 * 4096 + c2 % 64 * 64 + c3 % 64 = v := ⟨_, rfl⟩
      rw [hv'] at c ⊢
      show l.take 4 = enc1 (v : Int)
      rw [take4 (by omega), e0, e1, e2, e3]
      unfold enc1
      rw [if_neg (by omega), if_neg (by omega), if_neg (by omega)]
      have x0 : (c0 : Int) = 240 + (v : Int) / 262144 := by omega
      have x1 : (c1 : Int) = 128 + (v : Int) / 4096 % 64 := by omega
      have x2 : (c2 : Int) = 128 + (v : Int) / 64 % 64 := by omega
      have x3 : (c3 : Int) = 128 + (v : Int) % 64 := by omega
      rw [← x0, ← x1, ← x2, ← x3]
    · rename_i c
      rw [if_neg c] at hv
      exact absurd ⟨rfl, rfl⟩ hv
  · rw [decN_not _ _ _ _ _ b0 (by omega) (by omega)] at hv
    exact absurd ⟨rfl, rfl⟩ hv
theorem dec_eq (l : List UInt8) : (((Lib.decodeL l).1 : Int), (Lib.decodeL l).2) = dec (l.map fun b => (b.toNat : Int)) := by
  have h := decode_dec ⟨l.toArray⟩ 0
  rw [List.drop_zero] at h
  exact h
theorem nums_range (l : List UInt8) : ∀ b ∈ l.map (fun b => (b.toNat : Int)), 0 ≤ b ∧ b < 256 := by
  intro b hb
  obtain ⟨c, _, rfl⟩ := List.mem_map.1 hb
  have := c.toNat_lt
  omega
theorem valid : ∀ (n : Nat) (l : List UInt8), l.length ≤ n → Lib.validD l = decide (encs (pts (l.map fun b => (b.toNat : Int))) = l.map fun b => (b.toNat : Int))
  | 0, l, h => by
    obtain rfl : l = [] := List.eq_nil_of_length_eq_zero (by omega)
    rw [Lib.validD_nil, List.map_nil, pts_nil, encs_nil]
    rfl
  | n + 1, l, h => by
    by_cases e : l = []
    · subst e
      rw [Lib.validD_nil, List.map_nil, pts_nil, encs_nil]
      rfl
    · have hb := nums_range l
      have hd := dec_eq l
      have hm : (l.drop (Lib.decodeL l).2).map (fun b => (b.toNat : Int)) = (l.map fun b => (b.toNat : Int)).drop (Lib.decodeL l).2 := List.map_drop
      have hn : (l.map fun b => (b.toNat : Int)) ≠ [] := by simpa using e
      have h1 : (((Lib.decodeL l).1 : Nat) : Int) = (dec (l.map fun b => (b.toNat : Int))).1 := by rw [← hd]
      have h2 : (Lib.decodeL l).2 = (dec (l.map fun b => (b.toNat : Int))).2 := by rw [← hd]
      have hk := dec_bound hn
      rw [List.length_map] at hk
      rw [Lib.validD_step l e]
      have ih := valid n (l.drop (Lib.decodeL l).2) (by rw [List.length_drop]; omega)
      rw [hm] at ih
      generalize (l.map fun b => (b.toNat : Int)) = L at *
      rw [pts_cons hn, encs_cons]
      by_cases c : (Lib.decodeL l).1 = 65533 ∧ (Lib.decodeL l).2 = 1
      · rw [if_pos c]
        symm
        apply decide_eq_false
        intro x
        have y := dec_enc (dec L).1 (encs (pts (L.drop (dec L).2)))
        rw [x] at y
        have y2 : (dec L).2 = (enc (dec L).1).length := congrArg Prod.snd y
        rw [← h1, c.1, ← h2, c.2] at y2
        revert y2
        decide
      · rw [if_neg c, ih]
        apply decide_eq_decide.2
        have hv : L.take (dec L).2 = enc (dec L).1 := head_enc hn hb (fun z => c ⟨by omega, by omega⟩)
        rw [h2]
        constructor
        · intro x
          rw [x, ← hv, List.take_append_drop]
        · intro x
          have y : L = enc (dec L).1 ++ L.drop (dec L).2 := by rw [← hv, List.take_append_drop]
          have z : enc (dec L).1 ++ encs (pts (L.drop (dec L).2)) = enc (dec L).1 ++ L.drop (dec L).2 := x.trans y
          exact List.append_cancel_left z
theorem well (s : ByteArray) : Lib.validD s.data.toList = decide (encs (pts (bytesOf s)) = bytesOf s) := valid _ s.data.toList (Nat.le_refl _)
end Go.Proofs.YtiabgmddnddeiaaDoorVal
