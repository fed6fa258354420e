/- A plain text of the law FnExactShowPasses, what the law uses of it, taken out by a program of this session's (wip/tool/prune.py). -/
import Derived.Lib.DecodeN
import Derived.Lib.TrimU
import Derived.Shelf.Unicode.DecodeSlow
import Derived.Test.YtiabgmddnddeiaaDoorVFnExactShowPassesW0
namespace Go.Proofs.YtiabgmddnddeiaaDoorPts
open Go.RowKit Go.Proofs.YtiabgmddnddeiaaDoorW.PrintWords
def dec (l : List Int) : Int × Nat :=
  (((Lib.decodeN l.length (l.getD 0 0).toNat (l.getD 1 0).toNat (l.getD 2 0).toNat (l.getD 3 0).toNat).1 : Nat),
   (Lib.decodeN l.length (l.getD 0 0).toNat (l.getD 1 0).toNat (l.getD 2 0).toNat (l.getD 3 0).toNat).2)
def ptsF : Nat → List Int → List Int
  | 0, _ => []
  | f + 1, l => match l with
    | [] => []
    | a :: t => (dec (a :: t)).1 :: ptsF f ((a :: t).drop (dec (a :: t)).2)
def pts (l : List Int) : List Int := ptsF l.length l
def isP (p : Int) : Prop := 0 ≤ p ∧ p ≤ 1114111 ∧ (p < 55296 ∨ 57343 < p)
instance (p : Int) : Decidable (isP p) := inferInstanceAs (Decidable (_ ∧ _))
theorem decN_bound (n b0 b1 b2 b3 : Nat) (h : 0 < n) : 1 ≤ (Lib.decodeN n b0 b1 b2 b3).2 ∧ (Lib.decodeN n b0 b1 b2 b3).2 ≤ n ∧ (Lib.decodeN n b0 b1 b2 b3).2 ≤ 4 ∧ isP ((Lib.decodeN n b0 b1 b2 b3).1 : Nat) := by
  unfold Lib.decodeN isP
  repeat' split
  all_goals (simp only []; omega)
theorem decN_two (n c0 c1 c2 c3 : Nat) (l1 : c1 ≤ 255) (h : 194 ≤ c0) (h2 : c0 < 224) :
    Lib.decodeN n c0 c1 c2 c3 = if 1 < n ∧ 128 ≤ c1 ∧ c1 ≤ 191 then (c0 % 32 * 64 + c1 % 64, 2) else (65533, 1) := by
  have g : (128 ≤ c1 ∧ c1 ≤ 191) ↔ c1 / 64 = 2 := by omega
  have a1 : ¬ c0 < 128 := by omega
  have a2 : c0 / 32 = 6 := by omega
  have a3 : ¬ c0 / 16 = 14 := by omega
  have a4 : ¬ c0 / 8 = 30 := by omega
  have a5 : c0 % 32 * 64 + c1 % 64 ≥ 128 := by omega
  unfold Lib.decodeN
  simp only [a1, a2, a3, a4, a5, g, if_true, if_false, true_and, false_and]
theorem decN_three (n c0 c1 c2 c3 : Nat) (l1 : c1 ≤ 255) (l2 : c2 ≤ 255) (h : 224 ≤ c0) (h2 : c0 < 240) :
    Lib.decodeN n c0 c1 c2 c3 = if (2 < n ∧ (128 ≤ c1 ∧ c1 ≤ 191) ∧ (128 ≤ c2 ∧ c2 ≤ 191)) ∧ (c0 % 16 * 4096 + c1 % 64 * 64 + c2 % 64 ≥ 2048 ∧ (c0 % 16 * 4096 + c1 % 64 * 64 + c2 % 64 < 55296 ∨ 57344 ≤ c0 % 16 * 4096 + c1 % 64 * 64 + c2 % 64)) then (c0 % 16 * 4096 + c1 % 64 * 64 + c2 % 64, 3) else (65533, 1) := by
  have g1 : (128 ≤ c1 ∧ c1 ≤ 191) ↔ c1 / 64 = 2 := by omega
  have g2 : (128 ≤ c2 ∧ c2 ≤ 191) ↔ c2 / 64 = 2 := by omega
  have a1 : ¬ c0 < 128 := by omega
  have a2 : ¬ c0 / 32 = 6 := by omega
  have a3 : c0 / 16 = 14 := by omega
  have a4 : ¬ c0 / 8 = 30 := by omega
  have hx : c0 % 16 * 4096 + c1 % 64 * 64 + c2 % 64 ≤ 1114111 := by omega
  unfold Lib.decodeN
  simp only [a1, a2, a3, a4, g1, g2, if_false, true_and, false_and]
  obtain ⟨v, hv⟩ : ∃ v, c0 % 16 * 4096 + c1 % 64 * 64 + c2 % 64 = v := ⟨_, rfl⟩
  rw [hv] at hx ⊢
  by_cases q1 : c1 / 64 = 2
  · by_cases q2 : c2 / 64 = 2
    · by_cases q3 : 2 < n
      · have q4 : 1 < n := by omega
        simp only [q1, q2, q3, q4, true_and, if_true, and_self]
        by_cases z : v ≥ 2048 ∧ (v < 55296 ∨ 57344 ≤ v)
        · rw [if_pos (by omega), if_pos z]
        · rw [if_neg (by omega), if_neg z]
      · simp [q3]
    · simp [q2]
  · simp [q1]
theorem decN_four (n c0 c1 c2 c3 : Nat) (l1 : c1 ≤ 255) (l2 : c2 ≤ 255) (l3 : c3 ≤ 255) (h : 240 ≤ c0) (h2 : c0 < 245) :
    Lib.decodeN n c0 c1 c2 c3 = if (3 < n ∧ (128 ≤ c1 ∧ c1 ≤ 191) ∧ (128 ≤ c2 ∧ c2 ≤ 191) ∧ (128 ≤ c3 ∧ c3 ≤ 191)) ∧ (c0 % 8 * 262144 + c1 % 64 * 4096 + c2 % 64 * 64 + c3 % 64 ≥ 65536 ∧ c0 % 8 * 262144 + c1 % 64 * 4096 + c2 % 64 * 64 + c3 % 64 ≤ 1114111) then (c0 % 8 * 262144 + c1 % 64 * 4096 + c2 % 64 * 64 + c3 % 64, 4) else (65533, 1) := by
  have g1 : (128 ≤ c1 ∧ c1 ≤ 191) ↔ c1 / 64 = 2 := by omega
  have g2 : (128 ≤ c2 ∧ c2 ≤ 191) ↔ c2 / 64 = 2 := by omega
  have g3 : (128 ≤ c3 ∧ c3 ≤ 191) ↔ c3 / 64 = 2 := by omega
  have a1 : ¬ c0 < 128 := by omega
  have a2 : ¬ c0 / 32 = 6 := by omega
  have a3 : ¬ c0 / 16 = 14 := by omega
  have a4 : c0 / 8 = 30 := by omega
  unfold Lib.decodeN
  simp only [a1, a2, a3, a4, g1, g2, g3, if_false, true_and, false_and]
  obtain ⟨v, hv⟩ : ∃ v, c0 % 8 * 262144 + c1 % 64 * 4096 + c2 % 64 * 64 + c3 % 64 = v := ⟨_, rfl⟩
  rw [hv]
  by_cases q1 : c1 / 64 = 2
  · by_cases q2 : c2 / 64 = 2
    · by_cases q5 : c3 / 64 = 2
      · by_cases q3 : 3 < n
        · have q4 : 1 < n := by omega
          have q6 : 2 < n := by omega
          simp only [q1, q2, q3, q4, q5, q6, true_and, if_true, and_self]
          by_cases z : v ≥ 65536 ∧ v ≤ 1114111
          · rw [if_pos (by omega), if_pos z]
          · rw [if_neg (by omega), if_neg z]
        · simp [q3]
      · simp [q5]
    · simp [q2]
  · simp [q1]
theorem decN_not (n c0 c1 c2 c3 : Nat) (l0 : c0 ≤ 255) (h : 128 ≤ c0) (h2 : c0 < 194 ∨ 245 ≤ c0) : Lib.decodeN n c0 c1 c2 c3 = (65533, 1) := by
  have a1 : ¬ c0 < 128 := by omega
  have a3 : ¬ c0 / 16 = 14 := by omega
  unfold Lib.decodeN
  simp only [a1, a3, if_false, false_and]
  by_cases a2 : c0 / 32 = 6
  · have b : ¬ c0 % 32 * 64 + c1 % 64 ≥ 128 := by omega
    have a4 : ¬ c0 / 8 = 30 := by omega
    simp only [a2, a4, b, if_false, true_and, false_and]
    split <;> rfl
  · simp only [a2, if_false, false_and]
    by_cases a4 : c0 / 8 = 30
    · obtain ⟨v, hv⟩ : ∃ v, c0 % 8 * 262144 + c1 % 64 * 4096 + c2 % 64 * 64 + c3 % 64 = v := ⟨_, rfl⟩
      have hv2 : 1114111 < v := by omega
      rw [hv]
      split
      · rw [if_neg (by omega)]
      · rfl
    · simp only [a4, if_false, false_and]
theorem dec_bound {l : List Int} (h : l ≠ []) : 1 ≤ (dec l).2 ∧ (dec l).2 ≤ l.length ∧ (dec l).2 ≤ 4 ∧ isP (dec l).1 :=
  decN_bound _ _ _ _ _ (List.length_pos_iff.2 h)
theorem ptsF_more : ∀ (f g : Nat) (l : List Int), l.length ≤ f → l.length ≤ g → ptsF f l = ptsF g l
  | 0, g, l, h1, _ => by
    obtain rfl : l = [] := List.eq_nil_of_length_eq_zero (by omega)
    cases g <;> rfl
  | f + 1, 0, l, _, h2 => by
    obtain rfl : l = [] := List.eq_nil_of_length_eq_zero (by omega)
    rfl
  | f + 1, g + 1, [], _, _ => rfl
  | f + 1, g + 1, a :: t, h1, h2 => by
    have hb := dec_bound (l := a :: t) (by simp)
    show _ :: _ = _ :: _
    rw [ptsF_more f g _ (by rw [List.length_drop]; simp only [List.length_cons] at *; omega) (by rw [List.length_drop]; simp only [List.length_cons] at *; omega)]
theorem pts_nil : pts [] = [] := rfl
theorem pts_cons {l : List Int} (h : l ≠ []) : pts l = (dec l).1 :: pts (l.drop (dec l).2) := by
  cases l with
  | nil => exact absurd rfl h
  | cons a t =>
    have hb := dec_bound (l := a :: t) (by simp)
    unfold pts
    show ptsF (t.length + 1) (a :: t) = _
    show _ :: _ = _ :: _
    rw [ptsF_more t.length ((a :: t).drop (dec (a :: t)).2).length _ (by rw [List.length_drop]; simp only [List.length_cons] at *; omega) (Nat.le_refl _)]
theorem pts_length : ∀ (n : Nat) (l : List Int), l.length ≤ n → (pts l).length ≤ l.length
  | 0, l, h => by
    obtain rfl : l = [] := List.eq_nil_of_length_eq_zero (by omega)
    simp [pts_nil]
  | n + 1, l, h => by
    by_cases e : l = []
    · subst e; simp [pts_nil]
    · have hb := dec_bound e
      rw [pts_cons e, List.length_cons]
      have := pts_length n (l.drop (dec l).2) (by rw [List.length_drop]; omega)
      rw [List.length_drop] at this
      omega
def enc1 (p : Int) : List Int :=
  if p < 128 then [p] else if p < 2048 then [192 + p / 64, 128 + p % 64]
  else if p < 65536 then [224 + p / 4096, 128 + p / 64 % 64, 128 + p % 64]
  else [240 + p / 262144, 128 + p / 4096 % 64, 128 + p / 64 % 64, 128 + p % 64]
def fix (p : Int) : Int := if isP p then p else 65533
def enc (p : Int) : List Int := enc1 (fix p)
def encs (l : List Int) : List Int := l.flatMap enc
theorem fix_isP (p : Int) : isP (fix p) := by unfold fix; split <;> first | assumption | (unfold isP; omega)
theorem fix_of {p : Int} (h : isP p) : fix p = p := if_pos h
theorem enc_bytes (p : Int) : ∀ b ∈ enc p, 0 ≤ b ∧ b < 256 := by
  have h := fix_isP p
  unfold enc enc1
  obtain ⟨q, hq⟩ : ∃ q, fix p = q := ⟨_, rfl⟩
  rw [hq] at h ⊢
  unfold isP at h
  intro b hb
  repeat' split at hb
  all_goals simp only [List.mem_cons, List.mem_nil_iff, or_false] at hb
  all_goals omega
theorem enc_length (p : Int) : 1 ≤ (enc p).length ∧ (enc p).length ≤ 4 := by
  unfold enc enc1
  repeat' split
  all_goals simp
theorem encs_nil : encs [] = [] := rfl
theorem encs_cons (p : Int) (l : List Int) : encs (p :: l) = enc p ++ encs l := by simp [encs]
theorem encs_append (a b : List Int) : encs (a ++ b) = encs a ++ encs b := by simp [encs]
theorem encs_bytes (l : List Int) : ∀ b ∈ encs l, 0 ≤ b ∧ b < 256 := by
  intro b hb
  obtain ⟨p, _, hp⟩ := List.mem_flatMap.1 hb
  exact enc_bytes p b hp
theorem encs_length (l : List Int) : l.length ≤ (encs l).length ∧ (encs l).length ≤ 4 * l.length := by
  induction l with
  | nil => simp [encs_nil]
  | cons p l ih => rw [encs_cons, List.length_append, List.length_cons]; have := enc_length p; omega
theorem dec_enc (p : Int) (t : List Int) : dec (enc p ++ t) = (fix p, (enc p).length) := by
  have h := fix_isP p
  unfold enc enc1
  obtain ⟨q, hq⟩ : ∃ q, fix p = q := ⟨_, rfl⟩
  rw [hq] at h ⊢
  unfold isP at h
  obtain ⟨n, rfl⟩ : ∃ n : Nat, q = n := ⟨q.toNat, by omega⟩
  unfold dec
  repeat' split
  all_goals simp only [List.cons_append, List.nil_append, List.length_cons, List.length_nil, List.getD_cons_zero, List.getD_cons_succ]
  · unfold Lib.decodeN
    rw [if_pos (by omega)]
    simp
  · have e : Lib.decodeN (t.length + 1 + 1) (192 + (n : Int) / 64).toNat (128 + (n : Int) % 64).toNat (t.getD 0 0).toNat (t.getD 1 0).toNat = (n, 2) := by
      unfold Lib.decodeN
      rw [if_neg (by omega), if_pos (by omega), if_pos (by omega)]
      simp only [Prod.mk.injEq, and_true]; omega
    rw [e]
  · have e : Lib.decodeN (t.length + 1 + 1 + 1) (224 + (n : Int) / 4096).toNat (128 + (n : Int) / 64 % 64).toNat (128 + (n : Int) % 64).toNat (t.getD 0 0).toNat = (n, 3) := by
      unfold Lib.decodeN
      rw [if_neg (by omega), if_neg (by omega), if_pos (by omega), if_pos (by omega)]
      simp only [Prod.mk.injEq, and_true]; omega
    rw [e]
  · have e : Lib.decodeN (t.length + 1 + 1 + 1 + 1) (240 + (n : Int) / 262144).toNat (128 + (n : Int) / 4096 % 64).toNat (128 + (n : Int) / 64 % 64).toNat (128 + (n : Int) % 64).toNat = (n, 4) := by
      unfold Lib.decodeN
      rw [if_neg (by omega), if_neg (by omega), if_neg (by omega), if_pos (by omega), if_pos (by omega)]
      simp only [Prod.mk.injEq, and_true]; omega
    rw [e]
theorem bytes_range (s : ByteArray) : ∀ b ∈ bytesOf s, 0 ≤ b ∧ b < 256 := by
  intro b hb
  obtain ⟨c, _, rfl⟩ := List.mem_map.1 hb
  have := c.toNat_lt
  omega
theorem bytesOf_strOfNums {l : List Int} (h : ∀ b ∈ l, 0 ≤ b ∧ b < 256) : bytesOf (strOfNums l) = l := by
  unfold bytesOf
  rw [strOfNums_data, List.map_map]
  have e : ∀ b ∈ l, ((fun b : UInt8 => (b.toNat : Int)) ∘ fun n : Int => UInt8.ofNat n.toNat) b = b := by
    intro b hb
    have := h b hb
    simp only [Function.comp, UInt8.toNat_ofNat']
    omega
  rw [List.map_congr_left e, List.map_id']
theorem strOfNums_bytesOf (s : ByteArray) : strOfNums (bytesOf s) = s := by
  have e : (strOfNums (bytesOf s)).data.toList = s.data.toList := by
    rw [strOfNums_data]
    unfold bytesOf
    rw [List.map_map]
    have e : ∀ b ∈ s.data.toList, ((fun n : Int => UInt8.ofNat n.toNat) ∘ fun b : UInt8 => (b.toNat : Int)) b = b := by
      intro b _
      simp
    rw [List.map_congr_left e, List.map_id']
  obtain ⟨d⟩ := s
  cases h : strOfNums (bytesOf ⟨d⟩) with
  | mk d2 => rw [h] at e; exact congrArg ByteArray.mk (Array.toList_inj.1 e)
theorem bytesOf_inj {a b : ByteArray} (h : bytesOf a = bytesOf b) : a = b := by rw [← strOfNums_bytesOf a, h, strOfNums_bytesOf]
theorem get_bytes (s : ByteArray) (i : Nat) : ((s.get! i).toNat : Int) = (bytesOf s).getD i 0 := by
  unfold bytesOf
  obtain ⟨d⟩ := s
  by_cases h : i < d.size
  · have e : (ByteArray.mk d).get! i = d[i] := by
      show d[i]! = _
      exact getElem!_pos d i h
    rw [e]
    simp [h]
  · have e : (ByteArray.mk d).get! i = default := by
      show d[i]! = _
      exact getElem!_neg d i h
    rw [e]
    simp [h]; rfl
theorem decode_dec (s : ByteArray) (i : Nat) : (((Utf8.decode s i).1 : Int), (Utf8.decode s i).2) = dec ((bytesOf s).drop i) := by
  rw [Lib.decode_at]
  unfold dec
  have g : ∀ k, ((bytesOf s).drop i).getD k 0 = ((s.get! (i + k)).toNat : Int) := by
    intro k
    rw [get_bytes]
    simp [List.getD, List.getElem?_drop]
  rw [g 0, g 1, g 2, g 3]
  simp only [Int.toNat_natCast, Nat.add_zero, List.length_drop, bytesOf_length]
def Tot {α : Type} (o : Option α) (P : α → Prop) : Prop := ∃ r, o = some r ∧ P r
theorem Tot.mk {α : Type} {P : α → Prop} {r : α} (h : P r) : Tot (some r) P := ⟨r, rfl, h⟩
theorem Tot.bind {α β : Type} {o : Option α} {g : α → Option β} {P : α → Prop} {Q : β → Prop} (h : Tot o P) (hg : ∀ r, P r → Tot (g r) Q) : Tot (o.bind g) Q := by
  obtain ⟨r, rfl, hr⟩ := h
  exact hg r hr
theorem Tot.ite {α : Type} {c : Prop} [Decidable c] {a b : Option α} {P : α → Prop} (h1 : c → Tot a P) (h2 : ¬ c → Tot b P) : Tot (if c then a else b) P := by
  by_cases h : c
  · rw [if_pos h]; exact h1 h
  · rw [if_neg h]; exact h2 h
theorem Tot.mono {α : Type} {o : Option α} {P Q : α → Prop} (h : Tot o P) (hg : ∀ r, P r → Q r) : Tot o Q := by
  obtain ⟨r, e, hr⟩ := h
  exact ⟨r, e, hg r hr⟩
end Go.Proofs.YtiabgmddnddeiaaDoorPts
