/- Plain facts on reading bytes of a form piece by piece: what one piece is, where it is broken, when it waits for more. No program in sight. -/
import Derived.Test.YtdkoofdfkhogoaaDoorVFnEquivalentPts
namespace Go.Proofs.YtdkoofdfkhogoaaDoorDec
open Go.RowKit Go.Proofs.YtdkoofdfkhogoaaDoorW.PrintWords Go.Proofs.YtdkoofdfkhogoaaDoorPts
set_option linter.unusedVariables false
set_option linter.unusedSimpArgs false

def most (c : Int) : Nat := if c < 128 then 1 else if 194 ≤ c ∧ c ≤ 223 then 2 else if 224 ≤ c ∧ c ≤ 239 then 3 else if 240 ≤ c ∧ c ≤ 244 then 4 else 0
def low (c : Int) : Int := if c = 224 then 160 else if c = 240 then 144 else 128
def high (c : Int) : Int := if c = 237 then 159 else if c = 244 then 143 else 191
/-- how many bytes could begin the writing of a point that takes two bytes or more -/
def cnt (n : Nat) (c0 c1 c2 c3 : Int) : Nat :=
  if 1 < n ∧ low c0 ≤ c1 ∧ c1 ≤ high c0 then
    (if 2 < most c0 ∧ 2 < n ∧ 128 ≤ c2 ∧ c2 ≤ 191 then
      (if 3 < most c0 ∧ 3 < n ∧ 128 ≤ c3 ∧ c3 ≤ 191 then 4 else 3) else 2) else 1
def couldN (n : Nat) (c0 c1 c2 c3 : Int) : Nat × Bool := if most c0 = 0 then (0, false) else if most c0 = 1 then (1, true) else (cnt n c0 c1 c2 c3, cnt n c0 c1 c2 c3 == most c0)
/-- how many bytes could begin a point's writing, and whether they are all of it -/
def could (l : List Int) : Nat × Bool := couldN l.length (l.getD 0 0) (l.getD 1 0) (l.getD 2 0) (l.getD 3 0)
/-- a piece: its point, how many bytes, whether it is broken, whether it waits for more -/
def piece8 (l : List Int) : Int × Nat × Bool × Bool :=
  if (could l).1 = 0 then (65533, 1, true, false) else if (could l).2 = true then ((dec l).1, (could l).1, false, false) else (65533, (could l).1, true, decide ((could l).1 = l.length))
def unit2 (little : Bool) (l : List Int) : Int := if little = true then l.getD 0 0 + 256 * l.getD 1 0 else 256 * l.getD 0 0 + l.getD 1 0
def unit4 (little : Bool) (l : List Int) : Int := if little = true then l.getD 0 0 + 256 * l.getD 1 0 + 65536 * l.getD 2 0 + 16777216 * l.getD 3 0 else 16777216 * l.getD 0 0 + 65536 * l.getD 1 0 + 256 * l.getD 2 0 + l.getD 3 0
def piece16 (little : Bool) (l : List Int) : Int × Nat × Bool × Bool :=
  if l.length < 2 then (65533, l.length, true, true)
  else if unit2 little l < 55296 ∨ 57343 < unit2 little l then (unit2 little l, 2, false, false)
  else if 56320 ≤ unit2 little l then (65533, 2, true, false)
  else if l.length < 4 then (65533, 2, true, true)
  else if 56320 ≤ unit2 little (l.drop 2) ∧ unit2 little (l.drop 2) ≤ 57343 then (65536 + (unit2 little l - 55296) * 1024 + unit2 little (l.drop 2) - 56320, 4, false, false)
  else (65533, 2, true, false)
def piece32 (little : Bool) (l : List Int) : Int × Nat × Bool × Bool :=
  if l.length < 4 then (65533, l.length, true, true)
  else if isP (unit4 little l) then (unit4 little l, 4, false, false) else (65533, 4, true, false)
def pieceP (form : Int) (l : List Int) : Int × Nat × Bool × Bool := if form = 1 then piece8 l else if 4 ≤ form then piece32 (decide (form = 5)) l else piece16 (decide (form = 3)) l
/-- what is told of a piece: points, places of broken pieces, how far -/
def step (r : Int × Nat × Bool × Bool) (last : Bool) (p b : List Int) (u : Int) : Bool × List Int × List Int × Int :=
  if (r.2.2.2 && !last) = true then (false, p, b, u) else (true, p ++ [r.1], if r.2.2.1 = true then b ++ [u] else b, u + r.2.1)
def dallF (form : Int) (last : Bool) : Nat → List Int → Int → List Int × List Int × Int
  | 0, _, u => ([], [], u)
  | f + 1, l, u => if l = [] then ([], [], u) else if ((pieceP form l).2.2.2 && !last) = true then ([], [], u)
    else ((pieceP form l).1 :: (dallF form last f (l.drop (pieceP form l).2.1) (u + (pieceP form l).2.1)).1,
      (if (pieceP form l).2.2.1 = true then [u] else []) ++ (dallF form last f (l.drop (pieceP form l).2.1) (u + (pieceP form l).2.1)).2.1,
      (dallF form last f (l.drop (pieceP form l).2.1) (u + (pieceP form l).2.1)).2.2)
/-- all that is told of a row of bytes -/
def dall (form : Int) (last : Bool) (l : List Int) (u : Int) : List Int × List Int × Int := dallF form last l.length l u

theorem could_nat (n c0 c1 c2 c3 : Nat) (hn : 0 < n) (l0 : c0 ≤ 255) (l1 : c1 ≤ 255) (l2 : c2 ≤ 255) (l3 : c3 ≤ 255) :
    (couldN n c0 c1 c2 c3).1 ≤ n ∧ (couldN n c0 c1 c2 c3).1 ≤ 4 ∧
    ((couldN n c0 c1 c2 c3).2 = true → (Lib.decodeN n c0 c1 c2 c3).2 = (couldN n c0 c1 c2 c3).1 ∧ ((Lib.decodeN n c0 c1 c2 c3).2 ≠ 1 ∨ c0 < 128)) ∧
    ((couldN n c0 c1 c2 c3).2 = false → Lib.decodeN n c0 c1 c2 c3 = (65533, 1) ∧ ¬ c0 < 128) := by
  by_cases a0 : c0 < 128
  · have e : couldN n c0 c1 c2 c3 = (1, true) := by
      have m : most c0 = 1 := by unfold most; rw [if_pos (by omega)]
      unfold couldN; rw [m]; rfl
    rw [e]
    have d : Lib.decodeN n c0 c1 c2 c3 = (c0, 1) := by unfold Lib.decodeN; rw [if_pos a0]
    rw [d]
    exact ⟨hn, by decide, fun _ => ⟨rfl, .inr a0⟩, fun h => by cases h⟩
  · by_cases a1 : 194 ≤ c0 ∧ c0 < 224
    · have m : most c0 = 2 := by unfold most; rw [if_neg (by omega), if_pos (by omega)]
      have lo : low c0 = 128 := by unfold low; rw [if_neg (by omega), if_neg (by omega)]
      have hi : high c0 = 191 := by unfold high; rw [if_neg (by omega), if_neg (by omega)]
      rw [decN_two n c0 c1 c2 c3 l1 a1.1 a1.2]
      by_cases g : 1 < n ∧ 128 ≤ c1 ∧ c1 ≤ 191
      · have e : couldN n c0 c1 c2 c3 = (2, true) := by
          unfold couldN cnt; rw [m, lo, hi, if_neg (by omega), if_neg (by omega), if_pos (by omega), if_neg (by omega)]; rfl
        rw [e, if_pos g]
        exact ⟨g.1, by decide, fun _ => ⟨rfl, .inl (by simp)⟩, fun h => by cases h⟩
      · have e : couldN n c0 c1 c2 c3 = (1, false) := by
          unfold couldN cnt; rw [m, lo, hi, if_neg (by omega), if_neg (by omega), if_neg (by omega)]; rfl
        rw [e, if_neg g]
        exact ⟨hn, by decide, (fun h => by cases h), fun _ => ⟨rfl, a0⟩⟩
    · by_cases a2 : 224 ≤ c0 ∧ c0 < 240
      · have m : most c0 = 3 := by unfold most; rw [if_neg (by omega), if_neg (by omega), if_pos (by omega)]
        rw [decN_three n c0 c1 c2 c3 l1 l2 a2.1 a2.2]
        by_cases g1 : 1 < n ∧ low c0 ≤ c1 ∧ c1 ≤ high c0
        · by_cases g2 : 2 < n ∧ 128 ≤ c2 ∧ c2 ≤ 191
          · have e : couldN n c0 c1 c2 c3 = (3, true) := by
              unfold couldN cnt; rw [m, if_neg (by omega), if_neg (by omega), if_pos g1, if_pos (by omega), if_neg (by omega)]; rfl
            rw [e]
            have q : (2 < n ∧ (128 ≤ c1 ∧ c1 ≤ 191) ∧ (128 ≤ c2 ∧ c2 ≤ 191)) ∧ (c0 % 16 * 4096 + c1 % 64 * 64 + c2 % 64 ≥ 2048 ∧ (c0 % 16 * 4096 + c1 % 64 * 64 + c2 % 64 < 55296 ∨ 57344 ≤ c0 % 16 * 4096 + c1 % 64 * 64 + c2 % 64)) := by
              obtain ⟨_, q1, q2⟩ := g1
              unfold low at q1; unfold high at q2
              by_cases z1 : c0 = 224
              · subst z1; simp at q1 q2; omega
              · by_cases z2 : c0 = 237
                · subst z2; simp at q1 q2; omega
                · rw [if_neg (by omega), if_neg (by omega)] at q1; rw [if_neg (by omega), if_neg (by omega)] at q2; omega
            rw [if_pos q]
            exact ⟨g2.1, by decide, fun _ => ⟨rfl, .inl (by simp)⟩, fun h => by cases h⟩
          · have e : couldN n c0 c1 c2 c3 = (2, false) := by
              unfold couldN cnt; rw [m, if_neg (by omega), if_neg (by omega), if_pos g1, if_neg (by omega)]; rfl
            rw [e, if_neg (by omega)]
            exact ⟨g1.1, by decide, (fun h => by cases h), fun _ => ⟨rfl, a0⟩⟩
        · have e : couldN n c0 c1 c2 c3 = (1, false) := by
            unfold couldN cnt; rw [m, if_neg (by omega), if_neg (by omega), if_neg g1]; rfl
          have q : ¬ ((2 < n ∧ (128 ≤ c1 ∧ c1 ≤ 191) ∧ (128 ≤ c2 ∧ c2 ≤ 191)) ∧ (c0 % 16 * 4096 + c1 % 64 * 64 + c2 % 64 ≥ 2048 ∧ (c0 % 16 * 4096 + c1 % 64 * 64 + c2 % 64 < 55296 ∨ 57344 ≤ c0 % 16 * 4096 + c1 % 64 * 64 + c2 % 64))) := by
            intro q
            apply g1
            unfold low high
            by_cases z1 : c0 = 224
            · subst z1; simp; omega
            · by_cases z2 : c0 = 237
              · subst z2; simp; omega
              · rw [if_neg (by omega), if_neg (by omega), if_neg (by omega), if_neg (by omega)]; omega
          rw [e, if_neg q]
          exact ⟨hn, by decide, (fun h => by cases h), fun _ => ⟨rfl, a0⟩⟩
      · by_cases a3 : 240 ≤ c0 ∧ c0 < 245
        · have m : most c0 = 4 := by unfold most; rw [if_neg (by omega), if_neg (by omega), if_neg (by omega), if_pos (by omega)]
          rw [decN_four n c0 c1 c2 c3 l1 l2 l3 a3.1 a3.2]
          by_cases g1 : 1 < n ∧ low c0 ≤ c1 ∧ c1 ≤ high c0
          · by_cases g2 : 2 < n ∧ 128 ≤ c2 ∧ c2 ≤ 191
            · by_cases g3 : 3 < n ∧ 128 ≤ c3 ∧ c3 ≤ 191
              · have e : couldN n c0 c1 c2 c3 = (4, true) := by
                  unfold couldN cnt; rw [m, if_neg (by omega), if_neg (by omega), if_pos g1, if_pos (by omega), if_pos (by omega)]; rfl
                rw [e]
                have q : (3 < n ∧ (128 ≤ c1 ∧ c1 ≤ 191) ∧ (128 ≤ c2 ∧ c2 ≤ 191) ∧ (128 ≤ c3 ∧ c3 ≤ 191)) ∧ (c0 % 8 * 262144 + c1 % 64 * 4096 + c2 % 64 * 64 + c3 % 64 ≥ 65536 ∧ c0 % 8 * 262144 + c1 % 64 * 4096 + c2 % 64 * 64 + c3 % 64 ≤ 1114111) := by
                  obtain ⟨_, q1, q2⟩ := g1
                  unfold low at q1; unfold high at q2
                  by_cases z1 : c0 = 240
                  · subst z1; simp at q1 q2; omega
                  · by_cases z2 : c0 = 244
                    · subst z2; simp at q1 q2; omega
                    · rw [if_neg (by omega), if_neg (by omega)] at q1; rw [if_neg (by omega), if_neg (by omega)] at q2; omega
                rw [if_pos q]
                exact ⟨g3.1, by decide, fun _ => ⟨rfl, .inl (by simp)⟩, fun h => by cases h⟩
              · have e : couldN n c0 c1 c2 c3 = (3, false) := by
                  unfold couldN cnt; rw [m, if_neg (by omega), if_neg (by omega), if_pos g1, if_pos (by omega), if_neg (by omega)]; rfl
                rw [e, if_neg (by omega)]
                exact ⟨g2.1, by decide, (fun h => by cases h), fun _ => ⟨rfl, a0⟩⟩
            · have e : couldN n c0 c1 c2 c3 = (2, false) := by
                unfold couldN cnt; rw [m, if_neg (by omega), if_neg (by omega), if_pos g1, if_neg (by omega)]; rfl
              rw [e, if_neg (by omega)]
              exact ⟨g1.1, by decide, (fun h => by cases h), fun _ => ⟨rfl, a0⟩⟩
          · have e : couldN n c0 c1 c2 c3 = (1, false) := by
              unfold couldN cnt; rw [m, if_neg (by omega), if_neg (by omega), if_neg g1]; rfl
            have q : ¬ ((3 < n ∧ (128 ≤ c1 ∧ c1 ≤ 191) ∧ (128 ≤ c2 ∧ c2 ≤ 191) ∧ (128 ≤ c3 ∧ c3 ≤ 191)) ∧ (c0 % 8 * 262144 + c1 % 64 * 4096 + c2 % 64 * 64 + c3 % 64 ≥ 65536 ∧ c0 % 8 * 262144 + c1 % 64 * 4096 + c2 % 64 * 64 + c3 % 64 ≤ 1114111)) := by
              intro q
              apply g1
              unfold low high
              by_cases z1 : c0 = 240
              · subst z1; simp; omega
              · by_cases z2 : c0 = 244
                · subst z2; simp; omega
                · rw [if_neg (by omega), if_neg (by omega), if_neg (by omega), if_neg (by omega)]; omega
            rw [e, if_neg q]
            exact ⟨hn, by decide, (fun h => by cases h), fun _ => ⟨rfl, a0⟩⟩
        · have m : most c0 = 0 := by unfold most; rw [if_neg (by omega), if_neg (by omega), if_neg (by omega), if_neg (by omega)]
          have e : couldN n c0 c1 c2 c3 = (0, false) := by unfold couldN; rw [m]; rfl
          rw [e, decN_not n c0 c1 c2 c3 l0 (by omega) (by omega)]
          exact ⟨by omega, by decide, (fun h => by cases h), fun _ => ⟨rfl, a0⟩⟩

theorem getD_nat {l : List Int} (hb : ∀ b ∈ l, 0 ≤ b ∧ b < 256) (i : Nat) : ∃ c : Nat, l.getD i 0 = c ∧ c ≤ 255 := by
  by_cases h : i < l.length
  · have := hb l[i] (List.getElem_mem h)
    have e : l.getD i 0 = l[i] := by simp [List.getD, h]
    exact ⟨l[i].toNat, by omega, by omega⟩
  · have e : l.getD i 0 = 0 := by simp [List.getD, List.getElem?_eq_none (Nat.le_of_not_lt h)]
    exact ⟨0, by rw [e]; rfl, by omega⟩
theorem could_dec {l : List Int} (hne : l ≠ []) (hb : ∀ b ∈ l, 0 ≤ b ∧ b < 256) :
    (could l).1 ≤ l.length ∧ (could l).1 ≤ 4 ∧ ((could l).2 = true → (dec l).2 = (could l).1 ∧ ((dec l).2 ≠ 1 ∨ l.getD 0 0 < 128)) ∧ ((could l).2 = false → dec l = (65533, 1) ∧ ¬ l.getD 0 0 < 128) := by
  obtain ⟨c0, e0, l0⟩ := getD_nat hb 0
  obtain ⟨c1, e1, l1⟩ := getD_nat hb 1
  obtain ⟨c2, e2, l2⟩ := getD_nat hb 2
  obtain ⟨c3, e3, l3⟩ := getD_nat hb 3
  have h := could_nat l.length c0 c1 c2 c3 (List.length_pos_iff.2 hne) l0 l1 l2 l3
  unfold could dec
  rw [e0, e1, e2, e3]
  simp only [Int.toNat_natCast]
  refine ⟨h.1, h.2.1, fun x => ?_, fun x => ?_⟩
  · have := h.2.2.1 x; exact ⟨this.1, by omega⟩
  · have := h.2.2.2 x; rw [this.1]; exact ⟨rfl, by omega⟩
theorem could_pos {l : List Int} (h : (could l).2 = true) : 1 ≤ (could l).1 := by
  unfold could couldN at *
  split at h
  · cases h
  · rename_i h1
    rw [if_neg h1]
    split
    · exact Nat.le_refl _
    · unfold cnt; repeat' split
      all_goals (simp only []; omega)
theorem piece_bound (form : Int) {l : List Int} (hne : l ≠ []) (hb : ∀ b ∈ l, 0 ≤ b ∧ b < 256) : 1 ≤ (pieceP form l).2.1 ∧ (pieceP form l).2.1 ≤ l.length := by
  have hl := List.length_pos_iff.2 hne
  have hc := could_dec hne hb
  unfold pieceP
  split
  · unfold piece8
    split
    · exact ⟨Nat.le_refl _, hl⟩
    · rename_i h1
      split
      · exact ⟨by simp only []; omega, hc.1⟩
      · exact ⟨by simp only []; omega, hc.1⟩
  · split
    · unfold piece32
      repeat' split
      all_goals (simp only []; omega)
    · unfold piece16
      repeat' split
      all_goals (simp only []; omega)
theorem dallF_more (form : Int) (last : Bool) : ∀ (f g : Nat) (l : List Int) (u : Int), (∀ b ∈ l, 0 ≤ b ∧ b < 256) → l.length ≤ f → l.length ≤ g → dallF form last f l u = dallF form last g l u
  | 0, g, l, u, _, h1, _ => by
    obtain rfl : l = [] := List.eq_nil_of_length_eq_zero (by omega)
    cases g <;> rfl
  | f + 1, 0, l, u, _, _, h2 => by
    obtain rfl : l = [] := List.eq_nil_of_length_eq_zero (by omega)
    rfl
  | f + 1, g + 1, l, u, hb, h1, h2 => by
    by_cases e : l = []
    · subst e; rfl
    · have hp := piece_bound form e hb
      have ih := dallF_more form last f g (l.drop (pieceP form l).2.1) (u + (pieceP form l).2.1) (fun b h => hb b (List.mem_of_mem_drop h)) (by rw [List.length_drop]; omega) (by rw [List.length_drop]; omega)
      simp only [dallF]
      rw [ih]
theorem dall_nil (form : Int) (last : Bool) (u : Int) : dall form last [] u = ([], [], u) := rfl
theorem dall_stop {form : Int} {last : Bool} {l : List Int} (u : Int) (hne : l ≠ []) (h : ((pieceP form l).2.2.2 && !last) = true) : dall form last l u = ([], [], u) := by
  obtain ⟨n, hn⟩ : ∃ n, l.length = n + 1 := ⟨l.length - 1, by have := List.length_pos_iff.2 hne; omega⟩
  unfold dall
  rw [hn]
  simp only [dallF]
  rw [if_neg hne, if_pos h]
theorem dall_cons {form : Int} {last : Bool} {l : List Int} (u : Int) (hne : l ≠ []) (hb : ∀ b ∈ l, 0 ≤ b ∧ b < 256) (h : ((pieceP form l).2.2.2 && !last) = false) :
    dall form last l u = ((pieceP form l).1 :: (dall form last (l.drop (pieceP form l).2.1) (u + (pieceP form l).2.1)).1,
      (if (pieceP form l).2.2.1 = true then [u] else []) ++ (dall form last (l.drop (pieceP form l).2.1) (u + (pieceP form l).2.1)).2.1,
      (dall form last (l.drop (pieceP form l).2.1) (u + (pieceP form l).2.1)).2.2) := by
  obtain ⟨n, hn⟩ : ∃ n, l.length = n + 1 := ⟨l.length - 1, by have := List.length_pos_iff.2 hne; omega⟩
  have hp := piece_bound form hne hb
  unfold dall
  rw [hn]
  simp only [dallF]
  rw [if_neg hne, if_neg (by rw [h]; decide), dallF_more form last n (l.drop (pieceP form l).2.1).length _ _ (fun b h => hb b (List.mem_of_mem_drop h)) (by rw [List.length_drop]; omega) (Nat.le_refl _)]
def beginsN (n : Nat) (c0 c1 c2 : Int) : Bool := decide (1 ≤ n ∧ n + 1 ≤ most c0 ∧ (1 < n → low c0 ≤ c1 ∧ c1 ≤ high c0) ∧ (2 < n → 128 ≤ c2 ∧ c2 ≤ 191))
/-- whether bytes begin a point's writing and are not all of it -/
def begins (l : List Int) : Bool := beginsN l.length (l.getD 0 0) (l.getD 1 0) (l.getD 2 0)
def preN (n : Nat) (c0 c1 c2 : Int) : Nat :=
  if most c0 < 2 then 0 else if 1 < n ∧ 3 ≤ most c0 ∧ low c0 ≤ c1 ∧ c1 ≤ high c0 then (if 2 < n ∧ most c0 = 4 ∧ 128 ≤ c2 ∧ c2 ≤ 191 then 3 else 2) else 1
theorem most_le (c : Int) : most c ≤ 4 := by unfold most; repeat' split
                                             all_goals omega
theorem low_high (c : Int) : 128 ≤ low c ∧ high c ≤ 191 := by
  unfold low high
  constructor <;> (repeat' split) <;> omega
theorem pre_could {n : Nat} {c0 c1 c2 c3 : Int} (h : (couldN n c0 c1 c2 c3).2 = false) : (couldN n c0 c1 c2 c3).1 = preN n c0 c1 c2 := by
  have hm := most_le c0
  unfold couldN at *
  by_cases m0 : most c0 = 0
  · rw [if_pos m0]; unfold preN; rw [if_pos (by omega)]
  · rw [if_neg m0] at h ⊢
    by_cases m1 : most c0 = 1
    · rw [if_pos m1] at h; cases h
    · rw [if_neg m1] at h ⊢
      have hc : cnt n c0 c1 c2 c3 ≠ most c0 := by simpa using h
      show cnt n c0 c1 c2 c3 = _
      unfold preN
      rw [if_neg (by omega)]
      unfold cnt at hc ⊢
      clear h
      obtain ⟨lo, hlo⟩ : ∃ x, low c0 = x := ⟨_, rfl⟩
      obtain ⟨hi, hhi⟩ : ∃ x, high c0 = x := ⟨_, rfl⟩
      obtain ⟨m, hmm⟩ : ∃ x, most c0 = x := ⟨_, rfl⟩
      rw [hlo, hhi, hmm] at hc ⊢
      rw [hmm] at hm m0 m1
      by_cases g1 : 1 < n ∧ lo ≤ c1 ∧ c1 ≤ hi
      · rw [if_pos g1] at hc ⊢
        by_cases g2 : 2 < m ∧ 2 < n ∧ 128 ≤ c2 ∧ c2 ≤ 191
        · rw [if_pos g2] at hc ⊢
          by_cases g3 : 3 < m ∧ 3 < n ∧ 128 ≤ c3 ∧ c3 ≤ 191
          · rw [if_pos g3] at hc; omega
          · rw [if_neg g3] at hc ⊢
            rw [if_pos (by omega), if_pos (by omega)]
        · rw [if_neg g2] at hc ⊢
          rw [if_pos (by omega), if_neg (by omega)]
      · rw [if_neg g1] at hc ⊢
        rw [if_neg (by omega)]
/-- the same count, step by step: begun with n bytes, one more byte is taken as long as they begin a point's writing -/
theorem begins_steps {len : Nat} {c0 c1 c2 : Int} : (beginsN 1 c0 c1 c2 = true ↔ 1 ≤ preN len c0 c1 c2) ∧ (1 < len → 1 ≤ preN len c0 c1 c2 → (beginsN 2 c0 c1 c2 = true ↔ 2 ≤ preN len c0 c1 c2)) ∧ (len ≤ 1 → preN len c0 c1 c2 ≤ 1) ∧
    (2 < len → 2 ≤ preN len c0 c1 c2 → (beginsN 3 c0 c1 c2 = true ↔ 3 ≤ preN len c0 c1 c2)) ∧ (len ≤ 2 → preN len c0 c1 c2 ≤ 2) ∧ beginsN 4 c0 c1 c2 = false ∧ preN len c0 c1 c2 ≤ 3 := by
  have hm := most_le c0
  unfold beginsN preN
  obtain ⟨lo, hlo⟩ : ∃ x, low c0 = x := ⟨_, rfl⟩
  obtain ⟨hi, hhi⟩ : ∃ x, high c0 = x := ⟨_, rfl⟩
  obtain ⟨m, hmm⟩ : ∃ x, most c0 = x := ⟨_, rfl⟩
  rw [hlo, hhi, hmm]
  rw [hmm] at hm
  clear hlo hhi hmm
  simp only [decide_eq_true_eq, decide_eq_false_iff_not]
  by_cases m2 : m < 2
  · rw [if_pos m2]; omega
  · rw [if_neg m2]
    by_cases g1 : 1 < len ∧ 3 ≤ m ∧ lo ≤ c1 ∧ c1 ≤ hi
    · rw [if_pos g1]
      by_cases g2 : 2 < len ∧ m = 4 ∧ 128 ≤ c2 ∧ c2 ≤ 191
      · rw [if_pos g2]; omega
      · rw [if_neg g2]; omega
    · rw [if_neg g1]; omega
theorem step_len (r : Int × Nat × Bool × Bool) (last : Bool) (p b : List Int) (u : Int) : (step r last p b u).2.1.length ≤ p.length + 1 ∧ (step r last p b u).2.2.1.length ≤ b.length + 1 := by
  unfold step
  split
  · exact ⟨by simp, by simp⟩
  · refine ⟨by simp, ?_⟩
    split <;> simp
theorem dall_halt {form : Int} {last : Bool} {L p b p' b' : List Int} {u u' : Int} (hne : L ≠ []) (h : step (pieceP form L) last p b u = (false, p', b', u')) :
    (p ++ (dall form last L u).1, b ++ (dall form last L u).2.1, (dall form last L u).2.2) = (p', b', u') := by
  unfold step at h
  by_cases c : ((pieceP form L).2.2.2 && !last) = true
  · rw [if_pos c] at h
    rw [dall_stop u hne c]
    simp only [Prod.mk.injEq, true_and] at h
    obtain ⟨rfl, rfl, rfl⟩ := h
    simp
  · rw [if_neg c] at h
    simp at h
theorem dall_step {form : Int} {last : Bool} {L p b p' b' : List Int} {u u' : Int} (hne : L ≠ []) (hb : ∀ b ∈ L, 0 ≤ b ∧ b < 256) (h : step (pieceP form L) last p b u = (true, p', b', u')) :
    (p ++ (dall form last L u).1, b ++ (dall form last L u).2.1, (dall form last L u).2.2) = (p' ++ (dall form last (L.drop (pieceP form L).2.1) u').1, b' ++ (dall form last (L.drop (pieceP form L).2.1) u').2.1, (dall form last (L.drop (pieceP form L).2.1) u').2.2) ∧
    u' = u + (pieceP form L).2.1 ∧ p'.length = p.length + 1 ∧ b'.length ≤ b.length + 1 := by
  unfold step at h
  by_cases c : ((pieceP form L).2.2.2 && !last) = true
  · rw [if_pos c] at h
    simp at h
  · rw [if_neg c] at h
    simp only [Prod.mk.injEq, true_and] at h
    obtain ⟨rfl, rfl, rfl⟩ := h
    rw [dall_cons u hne hb (by simpa using c)]
    by_cases d : (pieceP form L).2.2.1 = true
    · rw [if_pos d, if_pos d]; simp
    · rw [if_neg d, if_neg d]; simp
theorem dall_ge (form : Int) (last : Bool) : ∀ (n : Nat) (l : List Int) (u : Int), l.length ≤ n → (∀ b ∈ l, 0 ≤ b ∧ b < 256) → u ≤ (dall form last l u).2.2
  | 0, l, u, h, _ => by
    obtain rfl : l = [] := List.eq_nil_of_length_eq_zero (by omega)
    exact Int.le_refl _
  | n + 1, l, u, h, hb => by
    by_cases e : l = []
    · subst e; exact Int.le_refl _
    · by_cases c : ((pieceP form l).2.2.2 && !last) = true
      · rw [dall_stop u e c]; exact Int.le_refl _
      · have hp := piece_bound form e hb
        rw [dall_cons u e hb (by simpa using c)]
        have := dall_ge form last n (l.drop (pieceP form l).2.1) (u + (pieceP form l).2.1) (by rw [List.length_drop]; omega) (fun b h => hb b (List.mem_of_mem_drop h))
        show u ≤ (dall form last (l.drop (pieceP form l).2.1) (u + (pieceP form l).2.1)).2.2
        omega
/-- a whole piece by itself reads as it reads with what stands behind it -/
theorem cut_nat (n c0 c1 c2 c3 d1 d2 d3 : Nat) (_ : 0 < n) (_ : c0 ≤ 255) (l1 : c1 ≤ 255) (l2 : c2 ≤ 255) (l3 : c3 ≤ 255) (m1 : d1 ≤ 255) (m2 : d2 ≤ 255) (m3 : d3 ≤ 255) (h : (couldN n c0 c1 c2 c3).2 = true)
    (h1 : 2 ≤ (couldN n c0 c1 c2 c3).1 → d1 = c1) (h2 : 3 ≤ (couldN n c0 c1 c2 c3).1 → d2 = c2) (h3 : 4 ≤ (couldN n c0 c1 c2 c3).1 → d3 = c3) :
    (Lib.decodeN (couldN n c0 c1 c2 c3).1 c0 d1 d2 d3).1 = (Lib.decodeN n c0 c1 c2 c3).1 := by
  unfold couldN at *
  by_cases a0 : most c0 = 0
  · rw [if_pos a0] at h; cases h
  · rw [if_neg a0] at h h1 h2 h3 ⊢
    by_cases a1 : most c0 = 1
    · rw [if_pos a1]
      have : c0 < 128 := by unfold most at a1; split at a1 <;> first | omega | (repeat' split at a1) <;> omega
      unfold Lib.decodeN
      rw [if_pos this, if_pos this]
    · rw [if_neg a1] at h h1 h2 h3 ⊢
      have hk : cnt n c0 c1 c2 c3 = most c0 := by simpa using h
      simp only [hk] at h1 h2 h3 ⊢
      have hn : cnt n c0 c1 c2 c3 ≤ n := by
        unfold cnt
        repeat' split
        all_goals omega
      rw [hk] at hn
      by_cases b1 : 194 ≤ c0 ∧ c0 < 224
      · have m : most c0 = 2 := by unfold most; rw [if_neg (by omega), if_pos (by omega)]
        rw [m] at h1 hn ⊢
        obtain rfl := h1 (by omega)
        rw [decN_two _ c0 d1 _ _ l1 b1.1 b1.2, decN_two _ c0 d1 _ _ l1 b1.1 b1.2]
        by_cases g : 128 ≤ d1 ∧ d1 ≤ 191
        · rw [if_pos ⟨by omega, g⟩, if_pos ⟨by omega, g⟩]
        · rw [if_neg (fun z => g z.2), if_neg (fun z => g z.2)]
      · by_cases b2 : 224 ≤ c0 ∧ c0 < 240
        · have m : most c0 = 3 := by unfold most; rw [if_neg (by omega), if_neg (by omega), if_pos (by omega)]
          rw [m] at h1 h2 hn ⊢
          obtain rfl := h1 (by omega)
          obtain rfl := h2 (by omega)
          rw [decN_three _ c0 d1 d2 _ l1 l2 b2.1 b2.2, decN_three _ c0 d1 d2 _ l1 l2 b2.1 b2.2]
          obtain ⟨v, hv⟩ : ∃ v, c0 % 16 * 4096 + d1 % 64 * 64 + d2 % 64 = v := ⟨_, rfl⟩
          rw [hv]
          by_cases g : ((128 ≤ d1 ∧ d1 ≤ 191) ∧ (128 ≤ d2 ∧ d2 ≤ 191)) ∧ (v ≥ 2048 ∧ (v < 55296 ∨ 57344 ≤ v))
          · rw [if_pos ⟨⟨by omega, g.1⟩, g.2⟩, if_pos ⟨⟨by omega, g.1⟩, g.2⟩]
          · rw [if_neg (fun z => g ⟨z.1.2, z.2⟩), if_neg (fun z => g ⟨z.1.2, z.2⟩)]
        · by_cases b3 : 240 ≤ c0 ∧ c0 < 245
          · have m : most c0 = 4 := by unfold most; rw [if_neg (by omega), if_neg (by omega), if_neg (by omega), if_pos (by omega)]
            rw [m] at h1 h2 h3 hn ⊢
            obtain rfl := h1 (by omega)
            obtain rfl := h2 (by omega)
            obtain rfl := h3 (by omega)
            rw [decN_four _ c0 d1 d2 d3 l1 l2 l3 b3.1 b3.2, decN_four _ c0 d1 d2 d3 l1 l2 l3 b3.1 b3.2]
            obtain ⟨v, hv⟩ : ∃ v, c0 % 8 * 262144 + d1 % 64 * 4096 + d2 % 64 * 64 + d3 % 64 = v := ⟨_, rfl⟩
            rw [hv]
            by_cases g : ((128 ≤ d1 ∧ d1 ≤ 191) ∧ (128 ≤ d2 ∧ d2 ≤ 191) ∧ (128 ≤ d3 ∧ d3 ≤ 191)) ∧ (v ≥ 65536 ∧ v ≤ 1114111)
            · rw [if_pos ⟨⟨by omega, g.1⟩, g.2⟩, if_pos ⟨⟨by omega, g.1⟩, g.2⟩]
            · rw [if_neg (fun z => g ⟨z.1.2, z.2⟩), if_neg (fun z => g ⟨z.1.2, z.2⟩)]
          · exfalso
            by_cases b4 : c0 < 128
            · apply a1; unfold most; rw [if_pos (by omega)]
            · apply a0; unfold most; rw [if_neg (by omega), if_neg (by omega), if_neg (by omega), if_neg (by omega)]
theorem dec_cut {l : List Int} (hne : l ≠ []) (hb : ∀ b ∈ l, 0 ≤ b ∧ b < 256) (h : (could l).2 = true) : (dec (l.take (could l).1)).1 = (dec l).1 := by
  have hp := could_pos h
  have hc := (could_dec hne hb).1
  obtain ⟨c0, e0, l0⟩ := getD_nat hb 0
  obtain ⟨c1, e1, l1⟩ := getD_nat hb 1
  obtain ⟨c2, e2, l2⟩ := getD_nat hb 2
  obtain ⟨c3, e3, l3⟩ := getD_nat hb 3
  have hb' : ∀ b ∈ l.take (could l).1, 0 ≤ b ∧ b < 256 := fun b z => hb b (List.mem_of_mem_take z)
  obtain ⟨d1, f1, m1⟩ := getD_nat hb' 1
  obtain ⟨d2, f2, m2⟩ := getD_nat hb' 2
  obtain ⟨d3, f3, m3⟩ := getD_nat hb' 3
  have g : ∀ i, i < (could l).1 → (l.take (could l).1).getD i 0 = l.getD i 0 := fun i hi => by simp [List.getD, List.getElem?_take, hi]
  have e : could l = couldN l.length c0 c1 c2 c3 := by unfold could; rw [e0, e1, e2, e3]
  have hl : (l.take (could l).1).length = (could l).1 := by rw [List.length_take]; omega
  have hcut := cut_nat l.length c0 c1 c2 c3 d1 d2 d3 (List.length_pos_iff.2 hne) l0 l1 l2 l3 m1 m2 m3 (e ▸ h)
    (fun z => by have := g 1 (by rw [e]; omega); omega) (fun z => by have := g 2 (by rw [e]; omega); omega) (fun z => by have := g 3 (by rw [e]; omega); omega)
  unfold dec
  rw [hl, g 0 (by omega), e0, e1, e2, e3, f1, f2, f3]
  simp only [Int.toNat_natCast]
  rw [e, hcut]
/-- the points of a row of bytes, each with where it begins and ends, and whether its bytes are no point's -/
def readsF : Nat → List Int → Int → List (Int × Int × Int × Bool)
  | 0, _, _ => []
  | f + 1, l, i => match l with
    | [] => []
    | a :: t => ((dec (a :: t)).1, i, i + (dec (a :: t)).2, decide ((dec (a :: t)).1 = 65533 ∧ (dec (a :: t)).2 = 1)) :: readsF f ((a :: t).drop (dec (a :: t)).2) (i + (dec (a :: t)).2)
def reads (l : List Int) : List (Int × Int × Int × Bool) := readsF l.length l 0
theorem readsF_pts : ∀ (f : Nat) (l : List Int) (i : Int), (readsF f l i).map (fun x => x.1) = ptsF f l
  | 0, _, _ => rfl
  | f + 1, [], _ => rfl
  | f + 1, a :: t, i => by
    show _ :: _ = _ :: _
    rw [readsF_pts f]
theorem reads_pts (l : List Int) : (reads l).map (fun x => x.1) = pts l := readsF_pts _ _ _
theorem readsF_more : ∀ (f g : Nat) (l : List Int) (i : Int), l.length ≤ f → l.length ≤ g → readsF f l i = readsF g l i
  | 0, g, l, i, h1, _ => by
    obtain rfl : l = [] := List.eq_nil_of_length_eq_zero (by omega)
    cases g <;> rfl
  | f + 1, 0, l, i, _, h2 => by
    obtain rfl : l = [] := List.eq_nil_of_length_eq_zero (by omega)
    rfl
  | f + 1, g + 1, [], i, _, _ => rfl
  | f + 1, g + 1, a :: t, i, h1, h2 => by
    have hb := dec_bound (l := a :: t) (by simp)
    show _ :: _ = _ :: _
    rw [readsF_more f g _ _ (by rw [List.length_drop]; simp only [List.length_cons] at *; omega) (by rw [List.length_drop]; simp only [List.length_cons] at *; omega)]
def readsAt (l : List Int) (i : Int) : List (Int × Int × Int × Bool) := readsF l.length l i
theorem readsAt_cons {l : List Int} (h : l ≠ []) (i : Int) : readsAt l i = ((dec l).1, i, i + (dec l).2, decide ((dec l).1 = 65533 ∧ (dec l).2 = 1)) :: readsAt (l.drop (dec l).2) (i + (dec l).2) := by
  cases l with
  | nil => exact absurd rfl h
  | cons a t =>
    have hb := dec_bound (l := a :: t) (by simp)
    unfold readsAt
    show readsF (t.length + 1) (a :: t) i = _
    show _ :: _ = _ :: _
    rw [readsF_more t.length ((a :: t).drop (dec (a :: t)).2).length _ _ (by rw [List.length_drop]; simp only [List.length_cons] at *; omega) (Nat.le_refl _)]
theorem reads_length (l : List Int) : (reads l).length ≤ l.length := by
  have h := congrArg List.length (reads_pts l)
  rw [List.length_map] at h
  rw [h]; exact pts_length _ l (Nat.le_refl _)
end Go.Proofs.YtdkoofdfkhogoaaDoorDec
