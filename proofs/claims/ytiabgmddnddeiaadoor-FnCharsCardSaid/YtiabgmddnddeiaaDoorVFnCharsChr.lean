/- A plain text of the law FnChars, what the law uses of it, taken out by a program of this session's (wip/tool/prune.py). -/
import Derived.Test.YtiabgmddnddeiaaDoorVFnCharsDec
import Derived.Test.YtiabgmddnddeiaaDoorVFnCharsCas
set_option linter.unusedVariables false
set_option linter.unusedSimpArgs false
namespace Go.Proofs.YtiabgmddnddeiaaDoorChr
open Go.RowKit Go.Proofs.YtiabgmddnddeiaaDoorPts Go.Proofs.YtiabgmddnddeiaaDoorDec Go.Proofs.YtiabgmddnddeiaaDoorCas Go.Proofs.YtiabgmddnddeiaaDoorW.PrintWords
def cc (p : Int) : Int :=
  if (kind p).1 = 1 ∨ p = 7954 then 1
  else if (kind p).1 = 3 ∨ p = 7936 ∨ (7744 ≤ p ∧ p ≤ 7748) then 2
  else if 1792 ≤ p ∧ p ≤ 1810 then 3
  else if 1824 ≤ p ∧ p ≤ 1844 then 4
  else if 1857 ≤ p ∧ p ≤ 1883 then 5
  else if (12288 ≤ p ∧ p ≤ 23459) ∧ (p - 12288) % 28 = 0 then 6
  else if 12288 ≤ p ∧ p ≤ 23459 then 7
  else if 7680 ≤ p ∧ p ≤ 7743 then 8
  else if 7760 ≤ p ∧ p ≤ 7785 then 9
  else 0
def cut (q p c d : Int) (bind picture : Bool) (flags : Int) (inp : Bool) : Bool :=
  if (q == 13 && p == 10) = true then false
  else if (c == 1 || d == 1) = true then true
  else if (d == 3 && (c == 3 || c == 4 || c == 6 || c == 7)) = true then false
  else if ((d == 4 || d == 6) && (c == 4 || c == 5)) = true then false
  else if ((d == 5 || d == 7) && c == 5) = true then false
  else if (c == 2) = true then false
  else if (inp && bind) = true then false
  else if (q == 7936 && c == 8 && picture) = true then false
  else if (c == 9 && d == 9 && flags % 2 == 1) = true then false
  else true
def cutO (prev : Option Int) (pic bind : Bool) (fl p : Int) : Bool := match prev with
  | none => false
  | some q => cut q p (cc p) (cc q) bind pic fl (decide (1536 ≤ p) && decide (p ≤ 1567))
def nPic (pic : Bool) (p : Int) : Bool := if cc p = 2 then pic else cc p == 8
def nBind (bind : Bool) (p : Int) : Bool := p == 1584 || (p == 1585 && bind)
def nFl (fl p : Int) : Int := if cc p = 9 then fl + 1 else 0
def go : Option Int → Bool → Bool → Int → List Int → List Bool
  | _, _, _, _, [] => []
  | prev, pic, bind, fl, p :: t => cutO prev pic bind fl p :: go (some p) (nPic pic p) (nBind bind p) (nFl fl p) t
theorem go_length : ∀ (l : List Int) (prev : Option Int) (pic bind : Bool) (fl : Int), (go prev pic bind fl l).length = l.length
  | [], _, _, _, _ => rfl
  | p :: t, _, _, _, _ => by rw [go, List.length_cons, go_length t, List.length_cons]
theorem fst_ite {c : Prop} [Decidable c] {a b : Int × Int} {k : Int} {P : Prop} (h1 : c → a.1 = k → P) (h2 : ¬ c → b.1 = k → P) : (if c then a else b).1 = k → P := by
  by_cases h : c
  · rw [if_pos h]; exact h1 h
  · rw [if_neg h]; exact h2 h
theorem kind1 (p : Int) (h : (kind p).1 = 1) : (0 ≤ p ∧ p ≤ 31) ∨ (127 ≤ p ∧ p ≤ 159) := by
  revert h
  unfold kind
  repeat' (refine fst_ite ?_ ?_ <;> intro _)
  all_goals (intro h; first | omega | exact absurd h (by dsimp only; decide))
theorem kind3 (p : Int) (h : (kind p).1 = 3) : (1568 ≤ p ∧ p ≤ 1579) ∨ p = 1584 ∨ p = 1585 ∨ (4096 ≤ p ∧ p ≤ 4159) := by
  revert h
  unfold kind
  repeat' (refine fst_ite ?_ ?_ <;> intro _)
  all_goals (intro h; first | omega | exact absurd h (by dsimp only; decide))
def ctl (p : Int) : Bool := (kind p).1 == 1 || p == 7954
def mrk (p : Int) : Bool := (kind p).1 == 3 || p == 7936 || (decide (7744 ≤ p) && decide (p ≤ 7748))
def pct (p : Int) : Bool := decide (7680 ≤ p) && decide (p ≤ 7743)
def flg (p : Int) : Bool := decide (7760 ≤ p) && decide (p ≤ 7785)
def prt (p : Int) : Int :=
  if 1792 ≤ p ∧ p ≤ 1810 then 1 else if 1824 ≤ p ∧ p ≤ 1844 then 2 else if 1857 ≤ p ∧ p ≤ 1883 then 3
  else if (12288 ≤ p ∧ p ≤ 23459) ∧ (p - 12288) % 28 = 0 then 4 else if 12288 ≤ p ∧ p ≤ 23459 then 5 else 0
def syl (a b : Int) : Bool :=
  if prt a = 1 then prt b == 1 || prt b == 2 || prt b == 4 || prt b == 5
  else if prt a = 2 ∨ prt a = 4 then prt b == 2 || prt b == 3
  else if prt a = 3 ∨ prt a = 5 then prt b == 3
  else false
theorem cc_cases (p : Int) : (cc p = 1 ∧ ctl p = true ∧ mrk p = false ∧ pct p = false ∧ flg p = false ∧ prt p = 0) ∨ (cc p = 2 ∧ ctl p = false ∧ mrk p = true ∧ pct p = false ∧ flg p = false ∧ prt p = 0) ∨
    (cc p = prt p + 2 ∧ 1 ≤ prt p ∧ prt p ≤ 5 ∧ ctl p = false ∧ mrk p = false ∧ pct p = false ∧ flg p = false) ∨ (cc p = 8 ∧ ctl p = false ∧ mrk p = false ∧ pct p = true ∧ flg p = false ∧ prt p = 0) ∨
    (cc p = 9 ∧ ctl p = false ∧ mrk p = false ∧ pct p = false ∧ flg p = true ∧ prt p = 0) ∨ (cc p = 0 ∧ ctl p = false ∧ mrk p = false ∧ pct p = false ∧ flg p = false ∧ prt p = 0) := by
  have h1 := kind1 p
  have h3 := kind3 p
  unfold cc ctl mrk pct flg prt
  by_cases a : (kind p).1 = 1
  · have := h1 a
    left
    refine ⟨by rw [if_pos (.inl a)], by simp [a], ?_, by simp; omega, by simp; omega, ?_⟩
    · rw [a]; simp; omega
    · rw [if_neg (by omega), if_neg (by omega), if_neg (by omega), if_neg (by omega), if_neg (by omega)]
  by_cases b : p = 7954
  · subst b; left; decide
  by_cases c : (kind p).1 = 3
  · have := h3 c
    right; left
    refine ⟨by rw [if_neg (by omega), if_pos (.inl c)], by simp [c]; omega, by simp [c], by simp; omega, by simp; omega, ?_⟩
    rw [if_neg (by omega), if_neg (by omega), if_neg (by omega), if_neg (by omega), if_neg (by omega)]
  have ea : ((kind p).1 == 1) = false := by simpa using a
  have ec : ((kind p).1 == 3) = false := by simpa using c
  rw [if_neg (by omega), ea, ec]
  clear h1 h3 ea ec
  by_cases d : p = 7936 ∨ (7744 ≤ p ∧ p ≤ 7748)
  · right; left
    refine ⟨by rw [if_pos (.inr d)], by simp; omega, by simp; omega, by simp; omega, by simp; omega, ?_⟩
    rw [if_neg (by omega), if_neg (by omega), if_neg (by omega), if_neg (by omega), if_neg (by omega)]
  rw [if_neg (by omega)]
  have m0 : (false || p == 7936 || (decide (7744 ≤ p) && decide (p ≤ 7748))) = false := by simp; omega
  have c0 : (false || p == 7954) = false := by simp; omega
  rw [m0, c0]
  clear m0 c0
  by_cases e1 : 1792 ≤ p ∧ p ≤ 1810
  · rw [if_pos e1, if_pos e1]; right; right; left; refine ⟨rfl, by omega, by omega, rfl, rfl, by simp; omega, by simp; omega⟩
  rw [if_neg e1, if_neg e1]
  by_cases e2 : 1824 ≤ p ∧ p ≤ 1844
  · rw [if_pos e2, if_pos e2]; right; right; left; refine ⟨rfl, by omega, by omega, rfl, rfl, by simp; omega, by simp; omega⟩
  rw [if_neg e2, if_neg e2]
  by_cases e3 : 1857 ≤ p ∧ p ≤ 1883
  · rw [if_pos e3, if_pos e3]; right; right; left; refine ⟨rfl, by omega, by omega, rfl, rfl, by simp; omega, by simp; omega⟩
  rw [if_neg e3, if_neg e3]
  by_cases e4 : (12288 ≤ p ∧ p ≤ 23459) ∧ (p - 12288) % 28 = 0
  · rw [if_pos e4, if_pos e4]; right; right; left; refine ⟨rfl, by omega, by omega, rfl, rfl, by simp; omega, by simp; omega⟩
  rw [if_neg e4, if_neg e4]
  by_cases e5 : 12288 ≤ p ∧ p ≤ 23459
  · rw [if_pos e5, if_pos e5]; right; right; left; refine ⟨rfl, by omega, by omega, rfl, rfl, by simp; omega, by simp; omega⟩
  rw [if_neg e5, if_neg e5]
  by_cases e6 : 7680 ≤ p ∧ p ≤ 7743
  · rw [if_pos e6]; right; right; right; left; refine ⟨rfl, rfl, rfl, by simp; omega, by simp; omega, rfl⟩
  rw [if_neg e6]
  by_cases e7 : 7760 ≤ p ∧ p ≤ 7785
  · rw [if_pos e7]; right; right; right; right; left; refine ⟨rfl, rfl, rfl, by simp; omega, by simp; omega, rfl⟩
  rw [if_neg e7]
  right; right; right; right; right
  refine ⟨rfl, rfl, rfl, by simp; omega, by simp; omega, rfl⟩
def bound : List Int → Bool
  | [] => false
  | [q] => q == 1584
  | q :: r :: t => if q = 1585 then bound (r :: t) else q == 1584
def look : List Int → Bool
  | [] => false
  | q :: t => if mrk q = true then look t else pct q
def nflg : List Int → Int
  | [] => 0
  | q :: t => if flg q = true then nflg t + 1 else 0
def cutS : List Int → Int → Bool
  | [], _ => false
  | q :: rest, p =>
    if q = 13 ∧ p = 10 then false
    else if (ctl q || ctl p) = true then true
    else if (syl q p || mrk p) = true then false
    else if (1536 ≤ p ∧ p ≤ 1567) ∧ bound (q :: rest) = true then false
    else if q = 7936 ∧ pct p = true then !look rest
    else if flg q = true ∧ flg p = true then nflg (q :: rest) % 2 == 0
    else true
theorem look_next (pre : List Int) (p : Int) : look (p :: pre) = nPic (look pre) p := by
  have e : look (p :: pre) = if mrk p = true then look pre else pct p := rfl
  rw [e]
  unfold nPic
  rcases cc_cases p with h | h | h | h | h | h
  all_goals (rw [h.1]; simp [h]; try (first | omega | (rw [if_neg (by omega)]; omega)))
theorem nflg_next (pre : List Int) (p : Int) : nflg (p :: pre) = nFl (nflg pre) p := by
  have e : nflg (p :: pre) = if flg p = true then nflg pre + 1 else 0 := rfl
  rw [e]
  unfold nFl
  rcases cc_cases p with h | h | h | h | h | h
  all_goals (rw [h.1]; simp [h]; try omega)
theorem bound_next (pre : List Int) (p : Int) : bound (p :: pre) = nBind (bound pre) p := by
  unfold nBind
  cases pre with
  | nil => simp [bound]
  | cons r t =>
    show (if p = 1585 then bound (r :: t) else p == 1584) = _
    by_cases h : p = 1585
    · subst h; simp
    · rw [if_neg h]; simp [h]
theorem nflg_nonneg : ∀ l : List Int, 0 ≤ nflg l
  | [] => by decide
  | q :: t => by have := nflg_nonneg t; unfold nflg; split <;> omega
theorem cut_back (pre : List Int) (p : Int) : cutO pre.head? (look pre) (bound pre) (nflg pre) p = cutS pre p := by
  cases pre with
  | nil => rfl
  | cons q rest =>
    show cut q p (cc p) (cc q) (bound (q :: rest)) (look (q :: rest)) (nflg (q :: rest)) (decide (1536 ≤ p) && decide (p ≤ 1567)) = cutS (q :: rest) p
    have hl : q = 7936 → look (q :: rest) = look rest := by
      intro e; subst e; show (if mrk 7936 = true then look rest else _) = _; rw [if_pos (by decide)]
    rw [cutS]
    unfold cut
    generalize bound (q :: rest) = b
    generalize nflg (q :: rest) = n
    generalize hk : look (q :: rest) = k at hl
    by_cases e1 : q = 13 ∧ p = 10
    · rw [if_pos (by simp [e1]), if_pos e1]
    rw [if_neg (by simpa using e1), if_neg e1]
    have hsyl : syl q p = true ↔ ((cc q == 3 && (cc p == 3 || cc p == 4 || cc p == 6 || cc p == 7)) = true ∨ ((cc q == 4 || cc q == 6) && (cc p == 4 || cc p == 5)) = true ∨ ((cc q == 5 || cc q == 7) && cc p == 5) = true) := by
      unfold syl
      simp only [Bool.and_eq_true, Bool.or_eq_true, beq_iff_eq]
      rcases cc_cases q with h | h | h | h | h | h <;> rcases cc_cases p with g | g | g | g | g | g
      all_goals (have h1 := h; have g1 := g)
      all_goals (repeat' split)
      all_goals (first | omega | (simp only [Bool.or_eq_true, beq_iff_eq, Bool.false_eq_true]; omega) | (exact ⟨fun z => absurd z Bool.false_ne_true, fun z => by omega⟩))
    have hc1 : (cc p == 1 || cc q == 1) = (ctl q || ctl p) := by
      rcases cc_cases q with h | h | h | h | h | h <;> rcases cc_cases p with g | g | g | g | g | g
      all_goals (rw [h.1, g.1]; simp [h, g]; try omega)
    rw [hc1]
    by_cases e2 : (ctl q || ctl p) = true
    · rw [if_pos e2, if_pos e2]
    rw [if_neg e2, if_neg e2]
    have hm : (cc p == 2) = mrk p := by
      rcases cc_cases p with g | g | g | g | g | g
      all_goals (rw [g.1]; simp [g]; try omega)
    rw [hm]
    by_cases e3 : (syl q p || mrk p) = true
    · rw [if_pos e3]
      rcases Bool.or_eq_true_iff.1 e3 with z | z
      · rcases hsyl.1 z with y | y | y
        · rw [if_pos y]
        · rw [if_pos y]; split <;> rfl
        · rw [if_pos y]; split; rfl; split <;> rfl
      · rw [if_pos z]; split; rfl; split; rfl; split <;> rfl
    rw [if_neg e3]
    have n1 : ¬ syl q p = true := fun z => e3 (by simp [z])
    have n2 : ¬ mrk p = true := fun z => e3 (by simp [z])
    rw [if_neg (fun z => n1 (hsyl.2 (.inl z))), if_neg (fun z => n1 (hsyl.2 (.inr (.inl z)))), if_neg (fun z => n1 (hsyl.2 (.inr (.inr z)))), if_neg n2]
    by_cases e4 : (1536 ≤ p ∧ p ≤ 1567) ∧ b = true
    · rw [if_pos (by simp [e4]), if_pos e4]
    rw [if_neg (by simpa [and_assoc] using e4), if_neg e4]
    have hp : (cc p == 8) = pct p := by
      rcases cc_cases p with g | g | g | g | g | g
      all_goals (rw [g.1]; simp [g]; try omega)
    have hf : ∀ x, (cc x == 9) = flg x := by
      intro x
      rcases cc_cases x with g | g | g | g | g | g
      all_goals (rw [g.1]; simp [g]; try omega)
    rw [hp, hf, hf]
    have hn2 := Int.emod_two_eq n
    by_cases e5 : q = 7936 ∧ pct p = true
    · rw [if_pos e5]
      have hfq : flg q = false := by rw [e5.1]; decide
      rw [← hl e5.1]
      cases k with
      | true => rw [if_pos (by simp [e5])]; rfl
      | false => rw [if_neg (by simp), if_neg (by simp [hfq])]; rfl
    · rw [if_neg e5, if_neg (by intro z; simp only [Bool.and_eq_true, beq_iff_eq] at z; exact e5 z.1)]
      by_cases e6 : flg q = true ∧ flg p = true
      · rw [if_pos e6, e6.1, e6.2]
        rcases hn2 with z | z
        · rw [z]; rfl
        · rw [z]; rfl
      · rw [if_neg e6, if_neg (by intro z; simp only [Bool.and_eq_true, beq_iff_eq] at z; exact e6 ⟨z.1.2, z.1.1⟩)]
theorem go_back : ∀ (l pre : List Int), go pre.head? (look pre) (bound pre) (nflg pre) l = (List.range l.length).map (fun i => cutS ((l.take i).reverse ++ pre) (l.getD i 0))
  | [], _ => rfl
  | p :: t, pre => by
    have ih := go_back t (p :: pre)
    rw [look_next, bound_next, nflg_next] at ih
    rw [go, cut_back, List.head?_cons] at *
    rw [ih, List.length_cons, List.range_succ_eq_map, List.map_cons, List.map_map]
    congr 1
    apply List.map_congr_left
    intro i _
    simp
theorem go_par : ∀ (l : List Int) (prev : Option Int) (pic bind : Bool) (fl fl' : Int), fl % 2 = fl' % 2 → go prev pic bind fl l = go prev pic bind fl' l
  | [], _, _, _, _, _, _ => rfl
  | p :: t, prev, pic, bind, fl, fl', h => by
    have h1 : nFl fl p % 2 = nFl fl' p % 2 := by unfold nFl; split <;> omega
    rw [go, go, go_par t _ _ _ _ _ h1]
    congr 1
    cases prev with
    | none => rfl
    | some q => show cut q p (cc p) (cc q) bind pic fl _ = cut q p (cc p) (cc q) bind pic fl' _; unfold cut; rw [h]
def St (prev : Option Int) (pic bind : Bool) (fl : Int) : Prop := match prev with
  | none => pic = false ∧ bind = false ∧ fl = 0
  | some q => (cc q = 1 → pic = false) ∧ (bind = true → q = 1584 ∨ q = 1585) ∧ (cc q ≠ 9 → fl = 0)
theorem St.next {prev : Option Int} {pic bind : Bool} {fl : Int} (p : Int) : St (some p) (nPic pic p) (nBind bind p) (nFl fl p) := by
  refine ⟨fun h => ?_, fun h => ?_, fun h => ?_⟩
  · unfold nPic; rw [if_neg (by omega), h]; rfl
  · unfold nBind at h; simp at h; omega
  · unfold nFl; rw [if_neg h]
theorem cc_1584 : cc 1584 = 2 := by decide
theorem cc_1585 : cc 1585 = 2 := by decide
theorem seg {prev : Option Int} {pic bind : Bool} {fl p : Int} (hs : St prev pic bind fl) (hc : prev = none ∨ cutO prev pic bind fl p = true) (t : List Int) :
    go (some p) (nPic pic p) (nBind bind p) (nFl fl p) t = go (some p) (nPic false p) (nBind false p) (nFl 0 p) t := by
  cases prev with
  | none => obtain ⟨rfl, rfl, rfl⟩ := hs; rfl
  | some q =>
    obtain ⟨s1, s2, s3⟩ := hs
    have hc : cut q p (cc p) (cc q) bind pic fl (decide (1536 ≤ p) && decide (p ≤ 1567)) = true := by rcases hc with h | h; cases h; exact h
    unfold cut at hc
    by_cases e0 : (q == 13 && p == 10) = true
    · rw [if_pos e0] at hc; cases hc
    rw [if_neg e0] at hc
    by_cases e1 : cc p = 1
    · have a1 : nPic pic p = nPic false p := by unfold nPic; rw [if_neg (by omega), if_neg (by omega)]
      have a2 : nBind bind p = nBind false p := by
        unfold nBind
        have : p ≠ 1585 := by intro h; subst h; rw [cc_1585] at e1; omega
        simp [this]
      have a3 : nFl fl p = nFl 0 p := by unfold nFl; rw [if_neg (by omega), if_neg (by omega)]
      rw [a1, a2, a3]
    by_cases e2 : cc p = 2
    · have hq : cc q = 1 := by
        by_cases h : cc q = 1
        · exact h
        · exfalso
          rw [if_neg (by simp [e1, h]), if_neg (by simp [e2]), if_neg (by simp [e2]), if_neg (by simp [e2]), if_pos (by simp [e2])] at hc
          cases hc
      have hb : bind = false := by
        cases hbb : bind with
        | false => rfl
        | true =>
          rcases s2 hbb with h | h
          · rw [h, cc_1584] at hq; omega
          · rw [h, cc_1585] at hq; omega
      have a3 : nFl fl p = nFl 0 p := by unfold nFl; rw [if_neg (by omega), if_neg (by omega)]
      rw [s1 hq, hb, a3]
    have a1 : nPic pic p = nPic false p := by unfold nPic; rw [if_neg e2, if_neg e2]
    have a2 : nBind bind p = nBind false p := by
      unfold nBind
      have : p ≠ 1585 := by intro h; subst h; exact e2 cc_1585
      simp [this]
    rw [a1, a2]
    apply go_par
    unfold nFl
    by_cases e9 : cc p = 9
    · rw [if_pos e9, if_pos e9]
      by_cases d9 : cc q = 9
      · have : fl % 2 = 0 := by
          rcases Int.emod_two_eq fl with h | h
          · exact h
          · exfalso
            rw [if_neg (by simp [e9, d9]), if_neg (by simp [e9, d9]), if_neg (by simp [e9, d9]), if_neg (by simp [e9, d9]), if_neg (by simp [e9]), ] at hc
            split at hc
            · cases hc
            · rw [if_neg (by simp [e9]), if_pos (by simp [e9, d9, h])] at hc
              cases hc
        omega
      · rw [s3 d9]
    · rw [if_neg e9, if_neg e9]
open Go.Lib (decodeN)
theorem form2 {n b0 b1 b2 b3 : Nat} (h : b0 / 32 = 6) : decodeN n b0 b1 b2 b3 = if (1 < n ∧ b1 / 64 = 2) ∧ b0 % 32 * 64 + b1 % 64 ≥ 128 then (b0 % 32 * 64 + b1 % 64, 2) else (65533, 1) := by
  unfold decodeN
  rw [if_neg (show ¬ b0 < 128 by omega)]
  by_cases c : 1 < n ∧ b1 / 64 = 2
  · rw [if_pos ⟨h, c⟩]
    by_cases d : b0 % 32 * 64 + b1 % 64 ≥ 128
    · rw [if_pos d, if_pos ⟨c, d⟩]
    · rw [if_neg d, if_neg (fun z => d z.2)]
  · rw [if_neg (fun z => c z.2), if_neg (fun z => absurd z.1 (by omega)), if_neg (fun z => absurd z.1 (by omega)), if_neg (fun z => c z.1)]
theorem form3 {b0 b1 b2 : Nat} (h : b0 / 16 = 14) : ∃ (v : Nat) (P : Prop), ∀ m b3, decodeN m b0 b1 b2 b3 = (@ite _ (((1 < m ∧ b1 / 64 = 2) ∧ (2 < m ∧ b2 / 64 = 2)) ∧ P) (Classical.propDecidable _) (v, 3) (65533, 1)) := by
  refine ⟨b0 % 16 * 4096 + b1 % 64 * 64 + b2 % 64, b0 % 16 * 4096 + b1 % 64 * 64 + b2 % 64 ≥ 2048 ∧ (b0 % 16 * 4096 + b1 % 64 * 64 + b2 % 64 < 55296 ∨ (57344 ≤ b0 % 16 * 4096 + b1 % 64 * 64 + b2 % 64 ∧ b0 % 16 * 4096 + b1 % 64 * 64 + b2 % 64 ≤ 1114111)), ?_⟩
  intro m b3
  unfold decodeN
  rw [if_neg (show ¬ b0 < 128 by omega), if_neg (fun z => absurd z.1 (by omega))]
  by_cases c : (1 < m ∧ b1 / 64 = 2) ∧ (2 < m ∧ b2 / 64 = 2)
  · rw [if_pos ⟨h, c⟩]
    split
    · rename_i d; rw [if_pos ⟨c, d⟩]
    · rename_i d; rw [if_neg (fun z => d z.2)]
  · rw [if_neg (fun z => c z.2), if_neg (fun z => absurd z.1 (by omega)), if_neg (fun z => c z.1)]
theorem form4 {b0 b1 b2 b3 : Nat} (h : b0 / 8 = 30) : ∃ (v : Nat) (P : Prop), ∀ m, decodeN m b0 b1 b2 b3 = (@ite _ (((1 < m ∧ b1 / 64 = 2) ∧ (2 < m ∧ b2 / 64 = 2) ∧ (3 < m ∧ b3 / 64 = 2)) ∧ P) (Classical.propDecidable _) (v, 4) (65533, 1)) := by
  refine ⟨b0 % 8 * 262144 + b1 % 64 * 4096 + b2 % 64 * 64 + b3 % 64, b0 % 8 * 262144 + b1 % 64 * 4096 + b2 % 64 * 64 + b3 % 64 ≥ 65536 ∧ (b0 % 8 * 262144 + b1 % 64 * 4096 + b2 % 64 * 64 + b3 % 64 < 55296 ∨ (57344 ≤ b0 % 8 * 262144 + b1 % 64 * 4096 + b2 % 64 * 64 + b3 % 64 ∧ b0 % 8 * 262144 + b1 % 64 * 4096 + b2 % 64 * 64 + b3 % 64 ≤ 1114111)), ?_⟩
  intro m
  unfold decodeN
  rw [if_neg (show ¬ b0 < 128 by omega), if_neg (fun z => absurd z.1 (by omega)), if_neg (fun z => absurd z.1 (by omega))]
  by_cases c : (1 < m ∧ b1 / 64 = 2) ∧ (2 < m ∧ b2 / 64 = 2) ∧ (3 < m ∧ b3 / 64 = 2)
  · rw [if_pos ⟨h, c⟩]
    split
    · rename_i d; rw [if_pos ⟨c, d⟩]
    · rename_i d; rw [if_neg (fun z => d z.2)]
  · rw [if_neg (fun z => c z.2), if_neg (fun z => c z.1)]
theorem decN_cut (n m b0 b1 b2 b3 : Nat) (hm : m ≤ n) (h : (decodeN n b0 b1 b2 b3).2 ≤ m) :
    decodeN m b0 (if 1 < m then b1 else 0) (if 2 < m then b2 else 0) (if 3 < m then b3 else 0) = decodeN n b0 b1 b2 b3 := by
  by_cases a0 : b0 < 128
  · unfold decodeN; rw [if_pos a0, if_pos a0]
  by_cases a1 : b0 / 32 = 6
  · rw [form2 a1] at h ⊢
    rw [form2 a1]
    by_cases c : (1 < n ∧ b1 / 64 = 2) ∧ b0 % 32 * 64 + b1 % 64 ≥ 128
    · rw [if_pos c] at h ⊢
      have : 1 < m := h
      rw [if_pos this, if_pos ⟨⟨this, c.1.2⟩, c.2⟩]
    · rw [if_neg c]
      by_cases m1 : 1 < m
      · rw [if_pos m1, if_neg (fun z => c ⟨⟨by omega, z.1.2⟩, z.2⟩)]
      · rw [if_neg (fun z => m1 z.1.1)]
  by_cases a2 : b0 / 16 = 14
  · obtain ⟨v, P, key⟩ := form3 (b1 := b1) (b2 := b2) a2
    by_cases m2 : 2 < m
    · rw [if_pos (show 1 < m by omega), if_pos m2, key m, key n]
      congr 1
      exact propext ⟨fun z => ⟨⟨⟨by omega, z.1.1.2⟩, by omega, z.1.2.2⟩, z.2⟩, fun z => ⟨⟨⟨by omega, z.1.1.2⟩, by omega, z.1.2.2⟩, z.2⟩⟩
    · obtain ⟨v', P', key'⟩ := form3 (b1 := if 1 < m then b1 else 0) (b2 := if 2 < m then b2 else 0) a2
      rw [key' m, if_neg (fun y => m2 y.1.2.1)]
      rw [key n] at h ⊢
      split at h
      · exact absurd h (by show ¬ 3 ≤ m; omega)
      · rename_i z; rw [if_neg z]
  by_cases a3 : b0 / 8 = 30
  · obtain ⟨v, P, key⟩ := form4 (b1 := b1) (b2 := b2) (b3 := b3) a3
    by_cases m3 : 3 < m
    · rw [if_pos (show 1 < m by omega), if_pos (show 2 < m by omega), if_pos m3, key m, key n]
      congr 1
      exact propext ⟨fun z => ⟨⟨⟨by omega, z.1.1.2⟩, ⟨by omega, z.1.2.1.2⟩, by omega, z.1.2.2.2⟩, z.2⟩, fun z => ⟨⟨⟨by omega, z.1.1.2⟩, ⟨by omega, z.1.2.1.2⟩, by omega, z.1.2.2.2⟩, z.2⟩⟩
    · obtain ⟨v', P', key'⟩ := form4 (b1 := if 1 < m then b1 else 0) (b2 := if 2 < m then b2 else 0) (b3 := if 3 < m then b3 else 0) a3
      rw [key' m, if_neg (fun y => m3 y.1.2.2.1)]
      rw [key n] at h ⊢
      split at h
      · exact absurd h (by show ¬ 4 ≤ m; omega)
      · rename_i z; rw [if_neg z]
  · have key : ∀ k x y z, decodeN k b0 x y z = (65533, 1) := by
      intro k x y z
      unfold decodeN
      rw [if_neg a0, if_neg (fun z => a1 z.1), if_neg (fun z => a2 z.1), if_neg (fun z => a3 z.1)]
    rw [key, key]
theorem dec_take {l : List Int} {k : Nat} (h : (dec l).2 ≤ k) : dec (l.take k) = dec l := by
  by_cases hk : l.length ≤ k
  · rw [List.take_of_length_le hk]
  unfold dec at h ⊢
  have e : (l.take k).length = k := by rw [List.length_take]; omega
  have g : ∀ i : Nat, ((l.take k).getD i 0).toNat = if i < k then (l.getD i 0).toNat else 0 := by
    intro i
    rw [List.getD_eq_getElem?_getD, List.getElem?_take]
    split
    · rw [List.getD_eq_getElem?_getD]
    · rfl
  have hk0 : 0 < k := by
    have := dec_bound (l := l) (by intro z; subst z; exact hk (Nat.zero_le _))
    unfold dec at this; omega
  rw [e, g 0, g 1, g 2, g 3, if_pos hk0, decN_cut _ _ _ _ _ _ (by omega) h]
abbrev S := Option Int × Bool × Bool × Int
def nxt (s : S) (p : Int) : S := (some p, nPic s.2.1 p, nBind s.2.2.1 p, nFl s.2.2.2 p)
def ct (s : S) (p : Int) : Bool := cutO s.1 s.2.1 s.2.2.1 s.2.2.2 p
def goS (s : S) (l : List Int) : List Bool := go s.1 s.2.1 s.2.2.1 s.2.2.2 l
def s0 : S := (none, false, false, 0)
def StS (s : S) : Prop := St s.1 s.2.1 s.2.2.1 s.2.2.2
theorem goS_nil (s : S) : goS s [] = [] := by unfold goS; rw [go]
theorem goS_cons (s : S) (p : Int) (t : List Int) : goS s (p :: t) = ct s p :: goS (nxt s p) t := by unfold goS; rw [go]; rfl
theorem StS_next (s : S) (p : Int) : StS (nxt s p) := St.next (prev := none) p
theorem StS_0 : StS s0 := ⟨rfl, rfl, rfl⟩
theorem seg' {s : S} {p : Int} (hs : StS s) (hc : s.1 = none ∨ ct s p = true) (t : List Int) : goS (nxt s p) t = goS (nxt s0 p) t := seg hs hc t
def cutsAt : Int → List Int → List Bool → List Int
  | _, _, [] => []
  | o, l, c :: cs => (if c = true then [o] else []) ++ cutsAt (o + (dec l).2) (l.drop (dec l).2) cs
def nx : List Int → List Bool → Nat
  | _, [] => 0
  | l, c :: cs => if c = true then 0 else (dec l).2 + nx (l.drop (dec l).2) cs
theorem cutsAt_none : ∀ (cs : List Bool) (o : Int) (l : List Int), (∀ c ∈ cs, c = false) → cutsAt o l cs = []
  | [], _, _, _ => rfl
  | c :: cs, o, l, h => by
    rw [cutsAt, h c (by simp), cutsAt_none cs _ _ (fun x hx => h x (by simp [hx]))]; rfl
theorem nx_fresh : ∀ (f : Nat) (l : List Int) (s : S), l.length ≤ f → nx l (goS s (pts l)) ≤ l.length ∧ ∀ c ∈ goS s (pts (l.take (nx l (goS s (pts l))))), c = false
  | f, [], s, h => by rw [pts_nil, goS_nil]; simp [nx, pts_nil, goS_nil]
  | 0, _ :: _, s, h => by simp at h
  | f + 1, a :: t, s, h => by
    generalize hl : a :: t = l at *
    have hne : l ≠ [] := by rw [← hl]; simp
    have hb := dec_bound hne
    obtain ⟨i1, i2⟩ := nx_fresh f (l.drop (dec l).2) (nxt s (dec l).1) (by rw [List.length_drop]; omega)
    rw [List.length_drop] at i1
    rw [pts_cons hne, goS_cons, nx]
    by_cases c : ct s (dec l).1 = true
    · rw [if_pos c]; simp [pts_nil, goS_nil]
    · rw [if_neg c]
      refine ⟨by omega, ?_⟩
      generalize hn : nx (l.drop (dec l).2) (goS (nxt s (dec l).1) (pts (l.drop (dec l).2))) = n at *
      have hk : l.take ((dec l).2 + n) ≠ [] := by
        intro z
        have := congrArg List.length z
        rw [List.length_take, List.length_nil] at this
        omega
      rw [pts_cons hk, dec_take (by omega), goS_cons, List.drop_take, show (dec l).2 + n - (dec l).2 = n by omega]
      intro x hx
      rcases List.mem_cons.1 hx with h1 | h1
      · rw [h1]; simpa using c
      · exact i2 x h1
def places (l : List Int) : List Int := if l = [] then [] else 0 :: (cutsAt 0 l (goS s0 (pts l)) ++ [(l.length : Int)])
inductive Seg : Int → List Int → List Int → Prop
  | last {o : Int} {l : List Int} (h : l ≠ []) (h1 : places l = [0, (l.length : Int)]) : Seg o l [o + l.length]
  | more {o : Int} {l L : List Int} {n : Nat} (h0 : 0 < n) (h1 : n < l.length) (h2 : places (l.take n) = [0, (n : Int)]) (h3 : Seg (o + n) (l.drop n) L) : Seg o l ((o + n) :: L)
theorem one_char {s : S} {l : List Int} (hne : l ≠ []) (hs : StS s) (hc : s.1 = none ∨ ct s (dec l).1 = true) :
    (dec l).2 + nx (l.drop (dec l).2) (goS (nxt s (dec l).1) (pts (l.drop (dec l).2))) ≤ l.length ∧
    places (l.take ((dec l).2 + nx (l.drop (dec l).2) (goS (nxt s (dec l).1) (pts (l.drop (dec l).2))))) = [0, (((dec l).2 + nx (l.drop (dec l).2) (goS (nxt s (dec l).1) (pts (l.drop (dec l).2))) : Nat) : Int)] := by
  have hb := dec_bound hne
  obtain ⟨i1, i2⟩ := nx_fresh _ (l.drop (dec l).2) (nxt s (dec l).1) (Nat.le_refl _)
  rw [List.length_drop] at i1
  rw [seg' hs hc] at i2 ⊢
  rw [seg' hs hc] at i1 i2
  generalize hn : nx (l.drop (dec l).2) (goS (nxt s0 (dec l).1) (pts (l.drop (dec l).2))) = n at *
  refine ⟨by omega, ?_⟩
  have hlen : (l.take ((dec l).2 + n)).length = (dec l).2 + n := by rw [List.length_take]; omega
  have hk : l.take ((dec l).2 + n) ≠ [] := by
    intro z
    rw [z, List.length_nil] at hlen
    omega
  unfold places
  rw [if_neg hk, hlen, cutsAt_none]
  · rfl
  · rw [pts_cons hk, dec_take (by omega), goS_cons, List.drop_take, show (dec l).2 + n - (dec l).2 = n by omega]
    intro x hx
    rcases List.mem_cons.1 hx with h1 | h1
    · rw [h1]; rfl
    · exact i2 x h1
theorem cutsAt_next : ∀ (f : Nat) (l : List Int) (s : S) (o : Int), l.length ≤ f → StS s →
    (l.drop (nx l (goS s (pts l))) = [] ∧ cutsAt o l (goS s (pts l)) = []) ∨
    ∃ s', StS s' ∧ l.drop (nx l (goS s (pts l))) ≠ [] ∧ ct s' (dec (l.drop (nx l (goS s (pts l))))).1 = true ∧
      cutsAt o l (goS s (pts l)) = cutsAt (o + nx l (goS s (pts l))) (l.drop (nx l (goS s (pts l)))) (goS s' (pts (l.drop (nx l (goS s (pts l))))))
  | f, [], s, o, h, hs => by left; rw [pts_nil, goS_nil]; simp [nx, cutsAt]
  | 0, _ :: _, s, o, h, hs => by simp at h
  | f + 1, a :: t, s, o, h, hs => by
    generalize hl : a :: t = l at *
    have hne : l ≠ [] := by rw [← hl]; simp
    have hb := dec_bound hne
    rw [pts_cons hne, goS_cons, nx]
    by_cases c : ct s (dec l).1 = true
    · right
      rw [if_pos c]
      refine ⟨s, hs, by simpa using hne, by simpa using c, ?_⟩
      simp only [List.drop_zero, Int.natCast_zero, Int.add_zero]
      rw [pts_cons hne, goS_cons]
    · rw [if_neg c]
      have ih := cutsAt_next f (l.drop (dec l).2) (nxt s (dec l).1) (o + (dec l).2) (by rw [List.length_drop]; omega) (StS_next _ _)
      generalize hn : nx (l.drop (dec l).2) (goS (nxt s (dec l).1) (pts (l.drop (dec l).2))) = n at *
      rw [List.drop_drop] at ih
      rw [cutsAt, if_neg c, List.nil_append]
      rw [show o + (((dec l).2 + n : Nat) : Int) = o + (dec l).2 + n by omega]
      exact ih
theorem seg_all : ∀ (f : Nat) (l : List Int) (s : S) (o : Int), l.length ≤ f → l ≠ [] → StS s → (s.1 = none ∨ ct s (dec l).1 = true) →
    Seg o l (cutsAt (o + (dec l).2) (l.drop (dec l).2) (goS (nxt s (dec l).1) (pts (l.drop (dec l).2))) ++ [o + (l.length : Int)])
  | 0, l, s, o, h, hne, hs, hc => absurd (List.length_eq_zero_iff.1 (by omega)) hne
  | f + 1, l, s, o, h, hne, hs, hc => by
    have hb := dec_bound hne
    obtain ⟨o1, o2⟩ := one_char hne hs hc
    have hx := cutsAt_next _ (l.drop (dec l).2) (nxt s (dec l).1) (o + (dec l).2) (Nat.le_refl _) (StS_next _ _)
    generalize hn : nx (l.drop (dec l).2) (goS (nxt s (dec l).1) (pts (l.drop (dec l).2))) = n at *
    rw [List.drop_drop] at hx
    rcases hx with ⟨x1, x2⟩ | ⟨s', x1, x2, x3, x4⟩
    · rw [x2, List.nil_append]
      have : l.length ≤ (dec l).2 + n := List.drop_eq_nil_iff.1 x1
      have e : (dec l).2 + n = l.length := by omega
      rw [e, List.take_length] at o2
      exact .last hne o2
    · have hlt : (dec l).2 + n < l.length := by
        rcases Nat.lt_or_ge ((dec l).2 + n) l.length with z | z
        · exact z
        · exact absurd (List.drop_eq_nil_iff.2 z) x2
      rw [x4, pts_cons x2, goS_cons, x3, cutsAt, if_pos rfl, List.cons_append, List.nil_append, List.cons_append]
      rw [show o + ((dec l).2 : Int) + (n : Int) = o + (((dec l).2 + n : Nat) : Int) by omega]
      refine .more (by omega) hlt o2 ?_
      have ih := seg_all f (l.drop ((dec l).2 + n)) s' (o + (((dec l).2 + n : Nat) : Int)) (by rw [List.length_drop]; omega) x2 x1 (.inr x3)
      rw [List.length_drop, show o + (((dec l).2 + n : Nat) : Int) + ((l.length - ((dec l).2 + n) : Nat) : Int) = o + l.length by omega] at ih
      exact ih
theorem places_seg {l : List Int} (h : l ≠ []) : ∃ L, places l = 0 :: L ∧ Seg 0 l L := by
  refine ⟨_, ?_, seg_all _ l s0 0 (Nat.le_refl _) h StS_0 (.inl rfl)⟩
  unfold places
  rw [if_neg h]
  conv => lhs; rw [pts_cons h, goS_cons]
  rw [cutsAt, show ct s0 (dec l).1 = false from rfl]
  simp
def fromsAt (l : List Int) (i : Int) : List Int := (readsAt l i).map (fun x => x.2.1)
theorem fromsAt_cons {l : List Int} (h : l ≠ []) (i : Int) : fromsAt l i = i :: fromsAt (l.drop (dec l).2) (i + (dec l).2) := by
  unfold fromsAt; rw [readsAt_cons h]; rfl
theorem fromsAt_length (l : List Int) (i : Int) : (fromsAt l i).length = (pts l).length := by
  unfold fromsAt readsAt
  have := congrArg List.length (readsF_pts l.length l i)
  rw [List.length_map] at this ⊢
  exact this
def sel : List Int → List Bool → List Int
  | f :: fs, c :: cs => (if c = true then [f] else []) ++ sel fs cs
  | _, _ => []
theorem cutsAt_sel : ∀ (cs : List Bool) (o : Int) (l : List Int), cs.length = (pts l).length → cutsAt o l cs = sel (fromsAt l o) cs
  | [], o, l, h => by rw [cutsAt]; cases fromsAt l o <;> rfl
  | c :: cs, o, l, h => by
    have hne : l ≠ [] := by intro z; rw [z, pts_nil] at h; simp at h
    rw [pts_cons hne, List.length_cons, List.length_cons] at h
    rw [cutsAt, fromsAt_cons hne, sel, cutsAt_sel cs _ _ (by omega)]
theorem sel_drop {F : List Int} {C : List Bool} {i : Nat} (h1 : i < F.length) (h2 : i < C.length) : sel (F.drop i) (C.drop i) = (if C[i] = true then [F[i]] else []) ++ sel (F.drop (i + 1)) (C.drop (i + 1)) := by
  rw [List.drop_eq_getElem_cons h1, List.drop_eq_getElem_cons h2]; rfl
theorem goS_length (s : S) (l : List Int) : (goS s l).length = l.length := go_length l _ _ _ _
theorem cutsAt_length : ∀ (cs : List Bool) (o : Int) (l : List Int), (cutsAt o l cs).length ≤ cs.length
  | [], _, _ => Nat.le_refl _
  | c :: cs, o, l => by
    have := cutsAt_length cs (o + (dec l).2) (l.drop (dec l).2)
    rw [cutsAt, List.length_append, List.length_cons]
    split <;> simp <;> omega
theorem places_length (l : List Int) : (places l).length ≤ l.length + 2 := by
  unfold places
  split
  · simp
  · have h1 := cutsAt_length (goS s0 (pts l)) 0 l
    rw [goS_length] at h1
    have h2 := pts_length _ l (Nat.le_refl _)
    simp; omega
def pcs (t : ByteArray) : List Int → List ByteArray
  | a :: b :: L => t.extract a.toNat b.toNat :: pcs t (b :: L)
  | _ => []
theorem pcs_drop {t : ByteArray} {L : List Int} {i : Nat} (h : i + 1 < L.length) : pcs t (L.drop i) = t.extract L[i].toNat L[i + 1].toNat :: pcs t (L.drop (i + 1)) := by
  rw [List.drop_eq_getElem_cons (show i < L.length by omega), List.drop_eq_getElem_cons h]; rfl
theorem pcs_end {t : ByteArray} {L : List Int} {i : Nat} (h : L.length ≤ i + 1) : pcs t (L.drop i) = [] := by
  have : (L.drop i).length ≤ 1 := by rw [List.length_drop]; omega
  rcases hd : L.drop i with _ | ⟨a, _ | ⟨b, M⟩⟩
  · rfl
  · rfl
  · rw [hd] at this; simp at this
theorem pcs_length (t : ByteArray) : ∀ L : List Int, (pcs t L).length ≤ L.length
  | [] => Nat.le_refl _
  | [_] => Nat.zero_le _
  | a :: b :: L => by have := pcs_length t (b :: L); rw [pcs]; simp only [List.length_cons] at this ⊢; omega
theorem bytes_extract (t : ByteArray) (a b : Nat) : bytesOf (t.extract a b) = ((bytesOf t).drop a).take (b - a) := by
  unfold bytesOf
  rw [← List.map_drop, ← List.map_take]
  congr 1
  simp only [ByteArray.data_extract, Array.toList_extract, List.extract_eq_take_drop]
theorem Seg.ends {o : Int} {l L : List Int} (h : Seg o l L) : ∀ (i : Nat) (hi : i + 1 < (o :: L).length), o ≤ (o :: L)[i] ∧ (o :: L)[i] < (o :: L)[i + 1] ∧ (o :: L)[i + 1] ≤ o + l.length := by
  induction h with
  | @last o l h h1 =>
    intro i hi
    have hl := List.length_pos_iff.2 h
    obtain rfl : i = 0 := by simp only [List.length_cons, List.length_nil] at hi; omega
    simp only [List.getElem_cons_zero, List.getElem_cons_succ]
    omega
  | @more o l L n h0 h1 h2 h3 ih =>
    intro i hi
    cases i with
    | zero => simp only [List.getElem_cons_zero, List.getElem_cons_succ]; omega
    | succ i =>
      have := ih i (by simpa using hi)
      rw [List.length_drop] at this
      simp only [List.getElem_cons_succ] at this ⊢
      omega
theorem Seg.pcs_ {o : Int} {l L : List Int} (h : Seg o l L) (t : ByteArray) : 0 ≤ o → l = (bytesOf t).drop o.toNat → (pcs t (o :: L)).flatMap bytesOf = l ∧ ∀ x ∈ pcs t (o :: L), places (bytesOf x) = [0, (x.size : Int)] := by
  induction h with
  | @last o l h h1 =>
    intro ho hl
    have e : bytesOf (t.extract o.toNat (o + (l.length : Int)).toNat) = l := by
      rw [bytes_extract, ← hl]
      exact List.take_of_length_le (by omega)
    have es := congrArg List.length e
    rw [bytesOf_length] at es
    simp only [pcs]
    refine ⟨by simp [e], fun x hx => ?_⟩
    obtain rfl : x = _ := List.mem_singleton.1 hx
    rw [e, es, h1]
  | @more o l L n h0 h1 h2 h3 ih =>
    intro ho hl
    have e : bytesOf (t.extract o.toNat (o + (n : Int)).toNat) = l.take n := by
      rw [bytes_extract, ← hl]
      congr 1
      omega
    have es := congrArg List.length e
    rw [bytesOf_length, List.length_take] at es
    have eo : (o + (n : Int)).toNat = o.toNat + n := by omega
    obtain ⟨i1, i2⟩ := ih (by omega) (by rw [hl, List.drop_drop, eo])
    simp only [pcs]
    refine ⟨?_, fun x hx => ?_⟩
    · rw [List.flatMap_cons, i1, e, List.take_append_drop]
    · rcases List.mem_cons.1 hx with z | z
      · rw [z, e, h2, es]; congr 2; omega
      · exact i2 x z
theorem chars_all (t : ByteArray) : (pcs t (places (bytesOf t))).flatMap bytesOf = bytesOf t ∧ (∀ x ∈ pcs t (places (bytesOf t)), places (bytesOf x) = [0, (x.size : Int)]) ∧
    ∀ (i : Nat) (hi : i + 1 < (places (bytesOf t)).length), 0 ≤ (places (bytesOf t))[i] ∧ (places (bytesOf t))[i] < (places (bytesOf t))[i + 1] ∧ (places (bytesOf t))[i + 1] ≤ t.size := by
  by_cases h : bytesOf t = []
  · have e : places (bytesOf t) = [] := by unfold places; rw [if_pos h]
    exact ⟨by rw [e, h]; rfl, fun x hx => (by rw [e] at hx; cases hx), fun i hi => (by rw [e] at hi; simp at hi)⟩
  · obtain ⟨L, e, hs⟩ := places_seg h
    obtain ⟨h1, h2⟩ := hs.pcs_ t (Int.le_refl 0) rfl
    have h3 := hs.ends
    rw [bytesOf_length] at h3
    refine ⟨by rw [e]; exact h1, by rw [e]; exact h2, ?_⟩
    intro i hi
    have := h3 i (by rw [e] at hi; exact hi)
    simp only [e]
    omega
theorem pcs_self (x : ByteArray) : pcs x [0, (x.size : Int)] = [x] := by
  show [x.extract 0 x.size] = [x]
  congr 1
  apply bytesOf_inj
  rw [bytes_extract, List.drop_zero, ← bytesOf_length x]
  exact List.take_of_length_le (by omega)
def nextC (a : Int) : List Int → Int
  | [] => -1
  | c :: L => if c > a then c else nextC a L
def lastC (a : Int) : List Int → Int → Int
  | [], acc => acc
  | c :: L, acc => if c < a then lastC a L c else lastC a L acc
def Inc (M : List Int) : Prop := ∀ (j : Nat) (hj : j + 1 < M.length), M[j] < M[j + 1]
theorem Inc.tail {c : Int} {L : List Int} (h : Inc (c :: L)) : Inc L := fun j hj => by have := h (j + 1) (by simpa using hj); simpa using this
theorem Inc.head {c : Int} {L : List Int} (h : Inc (c :: L)) : ∀ x ∈ L, c < x := by
  induction L generalizing c with
  | nil => intro x hx; cases hx
  | cons d L ih =>
    intro x hx
    have h0 : c < d := by have := h 0 (by simp); simpa using this
    rcases List.mem_cons.1 hx with z | z
    · rw [z]; exact h0
    · have := ih h.tail x z; omega
theorem nextC_inc : ∀ (M : List Int) (i : Nat) (hi : i + 1 < M.length), Inc M → nextC (M[i]'(by omega)) M = M[i + 1]
  | [], i, hi, _ => by simp at hi
  | [c], i, hi, _ => by simp at hi
  | c :: d :: L, 0, hi, h => by
    have h0 : c < d := by have := h 0 (by simp); simpa using this
    show nextC c (c :: d :: L) = d
    rw [nextC, if_neg (by omega), nextC, if_pos h0]
  | c :: d :: L, i + 1, hi, h => by
    have hh := h.head ((d :: L)[i]'(by simp at hi ⊢; omega)) (List.getElem_mem _)
    have ih := nextC_inc (d :: L) i (by simpa using hi) h.tail
    simp only [List.getElem_cons_succ] at ih ⊢
    rw [nextC, if_neg (by omega)]
    exact ih
theorem lastC_big (a : Int) : ∀ (M : List Int) (acc : Int), (∀ x ∈ M, a ≤ x) → lastC a M acc = acc
  | [], _, _ => rfl
  | c :: L, acc, h => by
    have := h c (by simp)
    rw [lastC, if_neg (by omega), lastC_big a L acc (fun x hx => h x (by simp [hx]))]
theorem lastC_inc : ∀ (M : List Int) (i : Nat) (hi : i + 1 < M.length) (acc : Int), Inc M → lastC M[i + 1] M acc = M[i]'(by omega)
  | [], i, hi, _, _ => by simp at hi
  | [c], i, hi, _, _ => by simp at hi
  | c :: d :: L, 0, hi, acc, h => by
    have h0 : c < d := by have := h 0 (by simp); simpa using this
    show lastC d (c :: d :: L) acc = c
    rw [lastC, if_pos h0]
    exact lastC_big d (d :: L) c (fun x hx => by
      rcases List.mem_cons.1 hx with z | z
      · omega
      · have := h.tail.head x z; omega)
  | c :: d :: L, i + 1, hi, acc, h => by
    have hh := h.head ((d :: L)[i + 1]'(by simp at hi ⊢; omega)) (List.getElem_mem _)
    have ih := lastC_inc (d :: L) i (by simpa using hi) c h.tail
    simp only [List.getElem_cons_succ] at ih hh ⊢
    rw [lastC, if_pos hh]
    exact ih
end Go.Proofs.YtiabgmddnddeiaaDoorChr
