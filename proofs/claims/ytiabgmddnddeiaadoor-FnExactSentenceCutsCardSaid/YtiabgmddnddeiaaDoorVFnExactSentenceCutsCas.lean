/- A plain text of the law FnExactSentenceCuts, what the law uses of it, taken out by a program of this session's (wip/tool/prune.py). -/
import Derived.Test.YtiabgmddnddeiaaDoorVFnExactSentenceCutsPts
namespace Go.Proofs.YtiabgmddnddeiaaDoorCas
open Go.RowKit Go.Proofs.YtiabgmddnddeiaaDoorW.PrintWords
def kind (p : Int) : Int × Int :=
  if 512 ≤ p ∧ p < 1280 then
    (if p % 256 < 32 ∨ 64 ≤ p % 256 ∧ p % 256 ≤ 67 then (4, p / 256)
     else if p % 256 < 64 ∨ 72 ≤ p % 256 ∧ p % 256 ≤ 75 ∨ 96 ≤ p % 256 ∧ p % 256 ≤ 97 then (5, p / 256)
     else if 68 ≤ p % 256 ∧ p % 256 ≤ 71 then (6, p / 256)
     else if 80 ≤ p % 256 ∧ p % 256 ≤ 89 then (8, p / 256)
     else (0, 0))
  else if 0 ≤ p ∧ p ≤ 31 ∨ 127 ≤ p ∧ p ≤ 159 then (1, 0)
  else if p = 32 ∨ p = 160 ∨ p = 8064 then (2, 0)
  else if 48 ≤ p ∧ p ≤ 57 then (8, 0)
  else if 65 ≤ p ∧ p ≤ 90 then (4, 1)
  else if 97 ≤ p ∧ p ≤ 122 then (5, 1)
  else if 33 ≤ p ∧ p ≤ 126 then (9, 0)
  else if p = 173 then (11, 0)
  else if 161 ≤ p ∧ p ≤ 191 then (10, 0)
  else if 1280 ≤ p ∧ p ≤ 1311 then (7, 5)
  else if 1360 ≤ p ∧ p ≤ 1369 then (8, 5)
  else if 1536 ≤ p ∧ p ≤ 1567 then (7, 6)
  else if 1568 ≤ p ∧ p ≤ 1579 ∨ p = 1584 ∨ p = 1585 then (3, 6)
  else if 1616 ≤ p ∧ p ≤ 1625 then (8, 6)
  else if 1792 ≤ p ∧ p ≤ 1810 ∨ 1824 ≤ p ∧ p ≤ 1844 ∨ 1857 ≤ p ∧ p ≤ 1883 ∨ 12288 ≤ p ∧ p ≤ 23459 then (7, 7)
  else if 2048 ≤ p ∧ p ≤ 2095 then (7, 8)
  else if 4096 ≤ p ∧ p ≤ 4159 then (3, 0)
  else if 7680 ≤ p ∧ p ≤ 7748 ∨ 7760 ≤ p ∧ p ≤ 7785 then (10, 0)
  else if 7936 ≤ p ∧ p ≤ 7947 ∨ p = 7953 ∨ p = 7954 then (11, 0)
  else if 8192 ≤ p ∧ p ≤ 9631 ∧ (p - 8192) % 512 < 416 then (if (p - 8192) % 512 < 208 then (4, 1) else (5, 1))
  else if 9728 ≤ p ∧ p ≤ 9753 then (4, 1)
  else if 9984 ≤ p ∧ p ≤ 10009 ∨ 10032 ≤ p ∧ p ≤ 10035 then (10, 0)
  else if 10016 ≤ p ∧ p ≤ 10025 then (8, 0)
  else if 24576 ≤ p ∧ p ≤ 26623 then (7, 9)
  else (0, 0)
def find (p : Int) : List (Int × Int × Int × Int) → Int × Int
  | [] => (0, 0)
  | r :: t => if r.1 ≤ p ∧ p ≤ r.2.1 then (r.2.2.1, r.2.2.2) else find p t
def find7 (q s : Int) : List (Int × Int × Int × Int) → Int × Int
  | [] => (0, 0)
  | r :: t => if r.1 ≤ q ∧ q ≤ r.2.1 then (r.2.2.1, s) else find7 q s t
theorem find_cons (p a b c d : Int) (t : List (Int × Int × Int × Int)) : find p ((a, b, c, d) :: t) = if a ≤ p ∧ p ≤ b then (c, d) else find p t := rfl
theorem find7_cons (q s a b c d : Int) (t : List (Int × Int × Int × Int)) : find7 q s ((a, b, c, d) :: t) = if a ≤ q ∧ q ≤ b then (c, s) else find7 q s t := rfl
def rows : List (Int × Int × Int × Int) := [(0, 31, 1, 0), (32, 32, 2, 0), (48, 57, 8, 0), (65, 90, 4, 1), (97, 122, 5, 1), (33, 126, 9, 0), (127, 159, 1, 0), (160, 160, 2, 0), (173, 173, 11, 0), (161, 191, 10, 0), (1280, 1311, 7, 5), (1360, 1369, 8, 5), (1536, 1567, 7, 6), (1568, 1579, 3, 6), (1584, 1585, 3, 6), (1616, 1625, 8, 6), (1792, 1810, 7, 7), (1824, 1844, 7, 7), (1857, 1883, 7, 7), (2048, 2095, 7, 8), (4096, 4159, 3, 0), (7680, 7748, 10, 0), (7760, 7785, 10, 0), (7936, 7947, 11, 0), (7953, 7954, 11, 0), (8064, 8064, 2, 0), (9728, 9753, 4, 1), (9984, 10009, 10, 0), (10016, 10025, 8, 0), (10032, 10035, 10, 0), (12288, 23459, 7, 7), (24576, 26623, 7, 9)]
def rows7 : List (Int × Int × Int × Int) := [(0, 31, 4, 0), (32, 63, 5, 0), (64, 67, 4, 0), (68, 71, 6, 0), (72, 75, 5, 0), (80, 89, 8, 0), (96, 97, 5, 0)]
theorem itec {α : Type} {c : Prop} [Decidable c] {a b x : α} (h1 : c → a = x) (h2 : ¬ c → b = x) : (if c then a else b) = x := by
  by_cases h : c
  · rw [if_pos h]; exact h1 h
  · rw [if_neg h]; exact h2 h
set_option maxRecDepth 100000 in
theorem find_rows (p : Int) (h1 : ¬ (512 ≤ p ∧ p < 1280)) (h2 : ¬ (8192 ≤ p ∧ p < 9728)) : find p rows = kind p := by
  unfold rows
  simp only [find]
  repeat' (with_reducible refine itec (fun _ => ?_) (fun _ => ?_))
  all_goals (unfold kind; repeat (first | rw [if_pos (by omega)] | rw [if_neg (by omega)]))
theorem find_rows7 (p : Int) (h1 : 512 ≤ p ∧ p < 1280) : find7 (p % 256) (p / 256) rows7 = kind p := by
  unfold rows7
  simp only [find7]
  repeat' (with_reducible refine itec (fun _ => ?_) (fun _ => ?_))
  all_goals (unfold kind; repeat (first | rw [if_pos (by omega)] | rw [if_neg (by omega)]))
theorem kind_mid (p : Int) (h : 8192 ≤ p ∧ p < 9728) : kind p = if p % 512 ≥ 416 then (0, 0) else if p % 512 < 208 then (4, 1) else (5, 1) := by
  by_cases c : p % 512 ≥ 416
  · rw [if_pos c]; unfold kind; repeat (first | rw [if_pos (by omega)] | rw [if_neg (by omega)])
  · rw [if_neg c]
    by_cases d : p % 512 < 208
    · rw [if_pos d]; unfold kind; repeat (first | rw [if_pos (by omega)] | rw [if_neg (by omega)])
    · rw [if_neg d]; unfold kind; repeat (first | rw [if_pos (by omega)] | rw [if_neg (by omega)])
end Go.Proofs.YtiabgmddnddeiaaDoorCas
