/- A plain text of the law FnExactSentenceCuts, what the law uses of it, taken out by a program of this session's (wip/tool/prune.py). -/
import Derived.Test.YtiabgmddnddeiaaDoorVFnExactSentenceCutsChr
set_option linter.unusedVariables false
set_option linter.unusedSimpArgs false
namespace Go.Proofs.YtiabgmddnddeiaaDoorSen
open Go.RowKit Go.Proofs.YtiabgmddnddeiaaDoorPts Go.Proofs.YtiabgmddnddeiaaDoorDec Go.Proofs.YtiabgmddnddeiaaDoorCas Go.Proofs.YtiabgmddnddeiaaDoorChr Go.Proofs.YtiabgmddnddeiaaDoorW.PrintWords
def st (p : Int) : Bool := decide (p ∈ ([46, 33, 63] : List Int))
def cl (p : Int) : Bool := decide (p ∈ ([41, 93, 125, 34, 39] : List Int))
def sp (p : Int) : Bool := (kind p).1 == 2
def mk (p : Int) : Bool := (kind p).1 == 3
theorem st_cases {p : Int} (h : st p = true) : p = 46 ∨ p = 33 ∨ p = 63 := by
  have := of_decide_eq_true h
  simpa using this
theorem cl_not {p : Int} (h : cl p = true) : st p = false := by
  have := of_decide_eq_true h
  simp at this
  rcases this with e | e | e | e | e <;> subst e <;> decide
theorem sp_not {p : Int} (h : sp p = true) : st p = false := by
  cases e : st p with
  | false => rfl
  | true =>
    rcases st_cases e with z | z | z <;> subst z <;> exact absurd h (by decide)
def skip (f : Int → Bool) (l : List Int) (i : Nat) : Nat := i + ((l.drop i).takeWhile f).length
section
variable {f : Int → Bool} {l : List Int} {i : Nat}
theorem skip_yes (h : i < l.length) (hf : f l[i] = true) : skip f l i = skip f l (i + 1) := by
  unfold skip; rw [List.drop_eq_getElem_cons h, List.takeWhile_cons_of_pos hf, List.length_cons]; omega
theorem skip_no (h : i < l.length) (hf : f l[i] = false) : skip f l i = i := by
  unfold skip; rw [List.drop_eq_getElem_cons h, List.takeWhile_cons_of_neg (by simp [hf])]; rfl
theorem skip_end (h : l.length ≤ i) : skip f l i = i := by unfold skip; rw [List.drop_eq_nil_of_le h]; rfl
theorem skip_ge : i ≤ skip f l i := by unfold skip; omega
theorem skip_le (h : i ≤ l.length) : skip f l i ≤ l.length := by
  unfold skip
  have := (List.takeWhile_sublist f (l := l.drop i)).length_le
  rw [List.length_drop] at this
  omega
theorem skip_in : ∀ (n : Nat) {i j : Nat}, j - i = n → i ≤ j → j < skip f l i → ∃ h : j < l.length, f l[j] = true := by
  intro n
  induction n with
  | zero =>
    intro i j h0 h1 h2
    obtain rfl : j = i := by omega
    by_cases h : j < l.length
    · cases e : f l[j] with
      | true => exact ⟨h, e⟩
      | false => rw [skip_no h e] at h2; omega
    · rw [skip_end (by omega)] at h2; omega
  | succ n ih =>
    intro i j h0 h1 h2
    by_cases h : i < l.length
    · cases e : f l[i] with
      | true => rw [skip_yes h e] at h2; exact ih (by omega) (by omega) h2
      | false => rw [skip_no h e] at h2; omega
    · rw [skip_end (by omega)] at h2; omega
theorem skip_stop (h : skip f l i < l.length) : f l[skip f l i] = false := by
  cases e : f l[skip f l i] with
  | false => rfl
  | true =>
    exfalso
    have key : ∀ (n i : Nat), l.length - i = n → ∀ h : skip f l i < l.length, f l[skip f l i] ≠ true := by
      intro n
      induction n with
      | zero => intro i h0 h; have := skip_ge (f := f) (l := l) (i := i); omega
      | succ n ih =>
        intro i h0 h
        have hi : i < l.length := by omega
        cases g : f l[i] with
        | true =>
          have := ih (i + 1) (by omega)
          rw [← skip_yes hi g] at this
          exact this h
        | false => simp only [skip_no hi g]; rw [g]; decide
    exact key _ i rfl h e
end
def dots (l : List Int) (i : Nat) : Bool := ((l.drop i).takeWhile st).all (fun x => x == 46)
theorem dots_yes {l : List Int} {i : Nat} (h : i < l.length) (hf : st l[i] = true) : dots l i = (l[i] == 46 && dots l (i + 1)) := by
  unfold dots; rw [List.drop_eq_getElem_cons h, List.takeWhile_cons_of_pos hf, List.all_cons]
theorem dots_no {l : List Int} {i : Nat} (h : i < l.length) (hf : st l[i] = false) : dots l i = true := by
  unfold dots; rw [List.drop_eq_getElem_cons h, List.takeWhile_cons_of_neg (by simp [hf])]; rfl
theorem dots_end {l : List Int} {i : Nat} (h : l.length ≤ i) : dots l i = true := by unfold dots; rw [List.drop_eq_nil_of_le h]; rfl
def fin (l : List Int) (soft : Bool) (c b d : Nat) : Bool :=
  !(soft && decide (d < l.length) && ((kind (l.getD d 0)).1 == 5 || (decide (c = b) && (decide (4 ≤ (kind (l.getD d 0)).1 ∧ (kind (l.getD d 0)).1 ≤ 7) || (kind (l.getD d 0)).1 == 8))))
def eb (l : List Int) (i : Nat) : Nat := skip cl l (skip st l i)
def ec (l : List Int) (i : Nat) : Nat := skip sp l (eb l i)
def closes (l : List Int) (i : Nat) : Nat × Bool := (ec l i, fin l (dots l i) (ec l i) (eb l i) (skip mk l (ec l i)))
def lb (l : List Int) (i : Nat) : Bool := decide (l.getD i 0 = 10 ∨ (l.getD i 0 = 13 ∧ (i + 1 = l.length ∨ l.getD (i + 1) 0 ≠ 10)))
def start (l : List Int) (i : Nat) : Bool := st (l.getD i 0) && (i == 0 || !st (l.getD (i - 1) 0))
def LB (l : List Int) (i j : Nat) : Bool := (List.range i).any (fun x => lb l x && decide (j = x + 1))
def SB (l : List Int) (i j : Nat) : Bool := (List.range i).any (fun x => start l x && (closes l x).2 && decide (j = (closes l x).1))
theorem LB_next (l : List Int) (i j : Nat) : LB l (i + 1) j = (LB l i j || (lb l i && decide (j = i + 1))) := by
  unfold LB; rw [List.range_succ, List.any_append]; simp
theorem SB_next (l : List Int) (i j : Nat) : SB l (i + 1) j = (SB l i j || (start l i && (closes l i).2 && decide (j = (closes l i).1))) := by
  unfold SB; rw [List.range_succ, List.any_append]; simp
theorem getD_set (c : List Bool) (a j : Nat) (h : a < c.length) : (c.set a true).getD j false = (c.getD j false || decide (j = a)) := by
  simp only [List.getD_eq_getElem?_getD, List.getElem?_set]
  by_cases e : a = j
  · subst e; rw [if_pos rfl, if_pos h]; simp
  · rw [if_neg e, decide_eq_false (fun z => e z.symm), Bool.or_false]
theorem SB_skip (l : List Int) (j i : Nat) : ∀ c, i ≤ c → (∀ x, i ≤ x → x < c → start l x = false) → SB l c j = SB l i j := by
  intro c
  induction c with
  | zero => intro h _; obtain rfl : i = 0 := (by omega); rfl
  | succ c ih =>
    intro h hx
    by_cases e : i = c + 1
    · rw [e]
    · rw [SB_next, hx c (by omega) (by omega), Bool.false_and, Bool.false_and, Bool.or_false]
      exact ih (by omega) (fun x h1 h2 => hx x h1 (by omega))
theorem ends_le {l : List Int} {i : Nat} (h : i ≤ l.length) : skip st l i ≤ eb l i ∧ eb l i ≤ ec l i ∧ ec l i ≤ l.length := by
  have h1 := skip_le (f := st) h
  have h2 : eb l i ≤ l.length := skip_le h1
  exact ⟨skip_ge, skip_ge, skip_le h2⟩
theorem no_start {l : List Int} {i : Nat} (h : i < l.length) (hs : st l[i] = true) : ∀ x, i + 1 ≤ x → x < ec l i → start l x = false := by
  intro x h1 h2
  have he := ends_le (l := l) (i := i) (by omega)
  have hx : x < l.length := by omega
  have hg : l.getD x 0 = l[x] := by simp [List.getD, hx]
  have hg1 : l.getD (x - 1) 0 = l[x - 1] := by simp [List.getD, show x - 1 < l.length by omega]
  unfold start
  rw [hg, hg1]
  by_cases a : x < skip st l i
  · obtain ⟨q, hq⟩ := skip_in (f := st) (l := l) _ rfl (show i ≤ x - 1 by omega) (by omega)
    rw [hq, show (x == 0) = false by simpa using (show x ≠ 0 by omega)]
    simp
  · by_cases b : x < eb l i
    · obtain ⟨q, hq⟩ := skip_in (f := cl) (l := l) _ rfl (show skip st l i ≤ x by omega) b
      rw [cl_not hq]; rfl
    · obtain ⟨q, hq⟩ := skip_in (f := sp) (l := l) _ rfl (show eb l i ≤ x by omega) h2
      rw [sp_not hq]; rfl
theorem at_close {l : List Int} {i : Nat} (h : i < l.length) (hs : st l[i] = true) (hc : ec l i < l.length) (hz : st l[ec l i] = true) : start l (ec l i) = true := by
  have he := ends_le (l := l) (i := i) (by omega)
  have hi : i < skip st l i := by rw [skip_yes h hs]; have := skip_ge (f := st) (l := l) (i := i + 1); omega
  have hg : l.getD (ec l i) 0 = l[ec l i] := by simp [List.getD, hc]
  have hg1 : l.getD (ec l i - 1) 0 = l[ec l i - 1] := by simp [List.getD, show ec l i - 1 < l.length by omega]
  unfold start
  rw [hg, hg1, hz]
  by_cases a : ec l i = skip st l i
  · have := skip_stop (f := st) (l := l) (i := i) (by omega)
    simp only [← a] at this
    rw [this] at hz; cases hz
  · have : st l[ec l i - 1] = false := by
      by_cases b : ec l i - 1 < eb l i
      · obtain ⟨q, hq⟩ := skip_in (f := cl) (l := l) _ rfl (show skip st l i ≤ ec l i - 1 by omega) b
        exact cl_not hq
      · obtain ⟨q, hq⟩ := skip_in (f := sp) (l := l) _ rfl (show eb l i ≤ ec l i - 1 by omega) (by show _ < ec l i; omega)
        exact sp_not hq
    rw [this]; simp
theorem ec_gt {l : List Int} {i : Nat} (h : i < l.length) (hs : st l[i] = true) : i < ec l i := by
  have he := ends_le (l := l) (i := i) (by omega)
  have hi : i < skip st l i := by rw [skip_yes h hs]; have := skip_ge (f := st) (l := l) (i := i + 1); omega
  omega
def D (l : List Int) (j : Nat) : Bool := LB l l.length j || SB l l.length j
def G (l : List Int) : List Bool := (List.range l.length).map (fun j => D l j && (go none false false 0 l).getD j false)
theorem G_length (l : List Int) : (G l).length = l.length := by simp [G]
def cuts (b : List Int) : List Int := if b = [] then [] else 0 :: (sel (fromsAt b 0) (G (pts b)) ++ [(b.length : Int)])
theorem sel_congr : ∀ (F : List Int) (C D : List Bool), F.length ≤ C.length → F.length ≤ D.length → (∀ j, j < F.length → C.getD j false = D.getD j false) → sel F C = sel F D
  | [], _, _, _, _, _ => by simp [sel]
  | f :: F, [], _, h, _, _ => by simp at h
  | f :: F, _ :: _, [], _, h, _ => by simp at h
  | f :: F, c :: C, d :: D, h1, h2, h => by
    have h0 := h 0 (by simp)
    simp only [List.getD_cons_zero] at h0
    rw [sel, sel, h0, sel_congr F C D (by simpa using h1) (by simpa using h2) (fun j hj => by have := h (j + 1) (by simpa using hj); simpa using this)]
end Go.Proofs.YtiabgmddnddeiaaDoorSen
