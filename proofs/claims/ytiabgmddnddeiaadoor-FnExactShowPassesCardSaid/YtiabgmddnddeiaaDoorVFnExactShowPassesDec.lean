/- A plain text of the law FnExactShowPasses, what the law uses of it, taken out by a program of this session's (wip/tool/prune.py). -/
import Derived.Test.YtiabgmddnddeiaaDoorVFnExactShowPassesPts
namespace Go.Proofs.YtiabgmddnddeiaaDoorDec
open Go.RowKit Go.Proofs.YtiabgmddnddeiaaDoorW.PrintWords Go.Proofs.YtiabgmddnddeiaaDoorPts
set_option linter.unusedVariables false
set_option linter.unusedSimpArgs false
def most (c : Int) : Nat := if c < 128 then 1 else if 194 ≤ c ∧ c ≤ 223 then 2 else if 224 ≤ c ∧ c ≤ 239 then 3 else if 240 ≤ c ∧ c ≤ 244 then 4 else 0
def step (r : Int × Nat × Bool × Bool) (last : Bool) (p b : List Int) (u : Int) : Bool × List Int × List Int × Int :=
  if (r.2.2.2 && !last) = true then (false, p, b, u) else (true, p ++ [r.1], if r.2.2.1 = true then b ++ [u] else b, u + r.2.1)
theorem getD_nat {l : List Int} (hb : ∀ b ∈ l, 0 ≤ b ∧ b < 256) (i : Nat) : ∃ c : Nat, l.getD i 0 = c ∧ c ≤ 255 := by
  by_cases h : i < l.length
  · have := hb l[i] (List.getElem_mem h)
    have e : l.getD i 0 = l[i] := by simp [List.getD, h]
    exact ⟨l[i].toNat, by omega, by omega⟩
  · have e : l.getD i 0 = 0 := by simp [List.getD, List.getElem?_eq_none (Nat.le_of_not_lt h)]
    exact ⟨0, by rw [e]; rfl, by omega⟩
def readsF : Nat → List Int → Int → List (Int × Int × Int × Bool)
  | 0, _, _ => []
  | f + 1, l, i => match l with
    | [] => []
    | a :: t => ((dec (a :: t)).1, i, i + (dec (a :: t)).2, decide ((dec (a :: t)).1 = 65533 ∧ (dec (a :: t)).2 = 1)) :: readsF f ((a :: t).drop (dec (a :: t)).2) (i + (dec (a :: t)).2)
def reads (l : List Int) : List (Int × Int × Int × Bool) := readsF l.length l 0
theorem readsF_pts : ∀ (f : Nat) (l : List Int) (i : Int), (readsF f l i).map (fun x => x.1) = ptsF f l
  | 0, _, _ => rfl
  | f + 1, [], _ => rfl
  | f + 1, a :: t, i => by
    show _ :: _ = _ :: _
    rw [readsF_pts f]
theorem reads_pts (l : List Int) : (reads l).map (fun x => x.1) = pts l := readsF_pts _ _ _
theorem readsF_more : ∀ (f g : Nat) (l : List Int) (i : Int), l.length ≤ f → l.length ≤ g → readsF f l i = readsF g l i
  | 0, g, l, i, h1, _ => by
    obtain rfl : l = [] := List.eq_nil_of_length_eq_zero (by omega)
    cases g <;> rfl
  | f + 1, 0, l, i, _, h2 => by
    obtain rfl : l = [] := List.eq_nil_of_length_eq_zero (by omega)
    rfl
  | f + 1, g + 1, [], i, _, _ => rfl
  | f + 1, g + 1, a :: t, i, h1, h2 => by
    have hb := dec_bound (l := a :: t) (by simp)
    show _ :: _ = _ :: _
    rw [readsF_more f g _ _ (by rw [List.length_drop]; simp only [List.length_cons] at *; omega) (by rw [List.length_drop]; simp only [List.length_cons] at *; omega)]
def readsAt (l : List Int) (i : Int) : List (Int × Int × Int × Bool) := readsF l.length l i
theorem readsAt_cons {l : List Int} (h : l ≠ []) (i : Int) : readsAt l i = ((dec l).1, i, i + (dec l).2, decide ((dec l).1 = 65533 ∧ (dec l).2 = 1)) :: readsAt (l.drop (dec l).2) (i + (dec l).2) := by
  cases l with
  | nil => exact absurd rfl h
  | cons a t =>
    have hb := dec_bound (l := a :: t) (by simp)
    unfold readsAt
    show readsF (t.length + 1) (a :: t) i = _
    show _ :: _ = _ :: _
    rw [readsF_more t.length ((a :: t).drop (dec (a :: t)).2).length _ _ (by rw [List.length_drop]; simp only [List.length_cons] at *; omega) (Nat.le_refl _)]
theorem reads_length (l : List Int) : (reads l).length ≤ l.length := by
  have h := congrArg List.length (reads_pts l)
  rw [List.length_map] at h
  rw [h]; exact pts_length _ l (Nat.le_refl _)
end Go.Proofs.YtiabgmddnddeiaaDoorDec
