/- A plain text of the law FnExactSentenceCuts, what the law uses of it, taken out by a program of this session's (wip/tool/prune.py). -/
import Derived.Test.YtiabgmddnddeiaaDoorVFnExactSentenceCutsDec
import Derived.Test.YtiabgmddnddeiaaDoorVFnExactSentenceCutsCas
set_option linter.unusedVariables false
set_option linter.unusedSimpArgs false
namespace Go.Proofs.YtiabgmddnddeiaaDoorChr
open Go.RowKit Go.Proofs.YtiabgmddnddeiaaDoorPts Go.Proofs.YtiabgmddnddeiaaDoorDec Go.Proofs.YtiabgmddnddeiaaDoorCas Go.Proofs.YtiabgmddnddeiaaDoorW.PrintWords
def cc (p : Int) : Int :=
  if (kind p).1 = 1 ∨ p = 7954 then 1
  else if (kind p).1 = 3 ∨ p = 7936 ∨ (7744 ≤ p ∧ p ≤ 7748) then 2
  else if 1792 ≤ p ∧ p ≤ 1810 then 3
  else if 1824 ≤ p ∧ p ≤ 1844 then 4
  else if 1857 ≤ p ∧ p ≤ 1883 then 5
  else if (12288 ≤ p ∧ p ≤ 23459) ∧ (p - 12288) % 28 = 0 then 6
  else if 12288 ≤ p ∧ p ≤ 23459 then 7
  else if 7680 ≤ p ∧ p ≤ 7743 then 8
  else if 7760 ≤ p ∧ p ≤ 7785 then 9
  else 0
def cut (q p c d : Int) (bind picture : Bool) (flags : Int) (inp : Bool) : Bool :=
  if (q == 13 && p == 10) = true then false
  else if (c == 1 || d == 1) = true then true
  else if (d == 3 && (c == 3 || c == 4 || c == 6 || c == 7)) = true then false
  else if ((d == 4 || d == 6) && (c == 4 || c == 5)) = true then false
  else if ((d == 5 || d == 7) && c == 5) = true then false
  else if (c == 2) = true then false
  else if (inp && bind) = true then false
  else if (q == 7936 && c == 8 && picture) = true then false
  else if (c == 9 && d == 9 && flags % 2 == 1) = true then false
  else true
def cutO (prev : Option Int) (pic bind : Bool) (fl p : Int) : Bool := match prev with
  | none => false
  | some q => cut q p (cc p) (cc q) bind pic fl (decide (1536 ≤ p) && decide (p ≤ 1567))
def nPic (pic : Bool) (p : Int) : Bool := if cc p = 2 then pic else cc p == 8
def nBind (bind : Bool) (p : Int) : Bool := p == 1584 || (p == 1585 && bind)
def nFl (fl p : Int) : Int := if cc p = 9 then fl + 1 else 0
def go : Option Int → Bool → Bool → Int → List Int → List Bool
  | _, _, _, _, [] => []
  | prev, pic, bind, fl, p :: t => cutO prev pic bind fl p :: go (some p) (nPic pic p) (nBind bind p) (nFl fl p) t
theorem go_length : ∀ (l : List Int) (prev : Option Int) (pic bind : Bool) (fl : Int), (go prev pic bind fl l).length = l.length
  | [], _, _, _, _ => rfl
  | p :: t, _, _, _, _ => by rw [go, List.length_cons, go_length t, List.length_cons]
theorem fst_ite {c : Prop} [Decidable c] {a b : Int × Int} {k : Int} {P : Prop} (h1 : c → a.1 = k → P) (h2 : ¬ c → b.1 = k → P) : (if c then a else b).1 = k → P := by
  by_cases h : c
  · rw [if_pos h]; exact h1 h
  · rw [if_neg h]; exact h2 h
theorem go_head (l : List Int) (h : 0 < (go none false false 0 l).length) : (go none false false 0 l)[0] = false := by
  cases l with
  | nil => simp [go] at h
  | cons p t => simp [go, cutO]
theorem kind1 (p : Int) (h : (kind p).1 = 1) : (0 ≤ p ∧ p ≤ 31) ∨ (127 ≤ p ∧ p ≤ 159) := by
  revert h
  unfold kind
  repeat' (refine fst_ite ?_ ?_ <;> intro _)
  all_goals (intro h; first | omega | exact absurd h (by dsimp only; decide))
theorem kind3 (p : Int) (h : (kind p).1 = 3) : (1568 ≤ p ∧ p ≤ 1579) ∨ p = 1584 ∨ p = 1585 ∨ (4096 ≤ p ∧ p ≤ 4159) := by
  revert h
  unfold kind
  repeat' (refine fst_ite ?_ ?_ <;> intro _)
  all_goals (intro h; first | omega | exact absurd h (by dsimp only; decide))
def ctl (p : Int) : Bool := (kind p).1 == 1 || p == 7954
def mrk (p : Int) : Bool := (kind p).1 == 3 || p == 7936 || (decide (7744 ≤ p) && decide (p ≤ 7748))
def pct (p : Int) : Bool := decide (7680 ≤ p) && decide (p ≤ 7743)
def flg (p : Int) : Bool := decide (7760 ≤ p) && decide (p ≤ 7785)
def prt (p : Int) : Int :=
  if 1792 ≤ p ∧ p ≤ 1810 then 1 else if 1824 ≤ p ∧ p ≤ 1844 then 2 else if 1857 ≤ p ∧ p ≤ 1883 then 3
  else if (12288 ≤ p ∧ p ≤ 23459) ∧ (p - 12288) % 28 = 0 then 4 else if 12288 ≤ p ∧ p ≤ 23459 then 5 else 0
def syl (a b : Int) : Bool :=
  if prt a = 1 then prt b == 1 || prt b == 2 || prt b == 4 || prt b == 5
  else if prt a = 2 ∨ prt a = 4 then prt b == 2 || prt b == 3
  else if prt a = 3 ∨ prt a = 5 then prt b == 3
  else false
theorem cc_cases (p : Int) : (cc p = 1 ∧ ctl p = true ∧ mrk p = false ∧ pct p = false ∧ flg p = false ∧ prt p = 0) ∨ (cc p = 2 ∧ ctl p = false ∧ mrk p = true ∧ pct p = false ∧ flg p = false ∧ prt p = 0) ∨
    (cc p = prt p + 2 ∧ 1 ≤ prt p ∧ prt p ≤ 5 ∧ ctl p = false ∧ mrk p = false ∧ pct p = false ∧ flg p = false) ∨ (cc p = 8 ∧ ctl p = false ∧ mrk p = false ∧ pct p = true ∧ flg p = false ∧ prt p = 0) ∨
    (cc p = 9 ∧ ctl p = false ∧ mrk p = false ∧ pct p = false ∧ flg p = true ∧ prt p = 0) ∨ (cc p = 0 ∧ ctl p = false ∧ mrk p = false ∧ pct p = false ∧ flg p = false ∧ prt p = 0) := by
  have h1 := kind1 p
  have h3 := kind3 p
  unfold cc ctl mrk pct flg prt
  by_cases a : (kind p).1 = 1
  · have := h1 a
    left
    refine ⟨by rw [if_pos (.inl a)], by simp [a], ?_, by simp; omega, by simp; omega, ?_⟩
    · rw [a]; simp; omega
    · rw [if_neg (by omega), if_neg (by omega), if_neg (by omega), if_neg (by omega), if_neg (by omega)]
  by_cases b : p = 7954
  · subst b; left; decide
  by_cases c : (kind p).1 = 3
  · have := h3 c
    right; left
    refine ⟨by rw [if_neg (by omega), if_pos (.inl c)], by simp [c]; omega, by simp [c], by simp; omega, by simp; omega, ?_⟩
    rw [if_neg (by omega), if_neg (by omega), if_neg (by omega), if_neg (by omega), if_neg (by omega)]
  have ea : ((kind p).1 == 1) = false := by simpa using a
  have ec : ((kind p).1 == 3) = false := by simpa using c
  rw [if_neg (by omega), ea, ec]
  clear h1 h3 ea ec
  by_cases d : p = 7936 ∨ (7744 ≤ p ∧ p ≤ 7748)
  · right; left
    refine ⟨by rw [if_pos (.inr d)], by simp; omega, by simp; omega, by simp; omega, by simp; omega, ?_⟩
    rw [if_neg (by omega), if_neg (by omega), if_neg (by omega), if_neg (by omega), if_neg (by omega)]
  rw [if_neg (by omega)]
  have m0 : (false || p == 7936 || (decide (7744 ≤ p) && decide (p ≤ 7748))) = false := by simp; omega
  have c0 : (false || p == 7954) = false := by simp; omega
  rw [m0, c0]
  clear m0 c0
  by_cases e1 : 1792 ≤ p ∧ p ≤ 1810
  · rw [if_pos e1, if_pos e1]; right; right; left; refine ⟨rfl, by omega, by omega, rfl, rfl, by simp; omega, by simp; omega⟩
  rw [if_neg e1, if_neg e1]
  by_cases e2 : 1824 ≤ p ∧ p ≤ 1844
  · rw [if_pos e2, if_pos e2]; right; right; left; refine ⟨rfl, by omega, by omega, rfl, rfl, by simp; omega, by simp; omega⟩
  rw [if_neg e2, if_neg e2]
  by_cases e3 : 1857 ≤ p ∧ p ≤ 1883
  · rw [if_pos e3, if_pos e3]; right; right; left; refine ⟨rfl, by omega, by omega, rfl, rfl, by simp; omega, by simp; omega⟩
  rw [if_neg e3, if_neg e3]
  by_cases e4 : (12288 ≤ p ∧ p ≤ 23459) ∧ (p - 12288) % 28 = 0
  · rw [if_pos e4, if_pos e4]; right; right; left; refine ⟨rfl, by omega, by omega, rfl, rfl, by simp; omega, by simp; omega⟩
  rw [if_neg e4, if_neg e4]
  by_cases e5 : 12288 ≤ p ∧ p ≤ 23459
  · rw [if_pos e5, if_pos e5]; right; right; left; refine ⟨rfl, by omega, by omega, rfl, rfl, by simp; omega, by simp; omega⟩
  rw [if_neg e5, if_neg e5]
  by_cases e6 : 7680 ≤ p ∧ p ≤ 7743
  · rw [if_pos e6]; right; right; right; left; refine ⟨rfl, rfl, rfl, by simp; omega, by simp; omega, rfl⟩
  rw [if_neg e6]
  by_cases e7 : 7760 ≤ p ∧ p ≤ 7785
  · rw [if_pos e7]; right; right; right; right; left; refine ⟨rfl, rfl, rfl, by simp; omega, by simp; omega, rfl⟩
  rw [if_neg e7]
  right; right; right; right; right
  refine ⟨rfl, rfl, rfl, by simp; omega, by simp; omega, rfl⟩
def bound : List Int → Bool
  | [] => false
  | [q] => q == 1584
  | q :: r :: t => if q = 1585 then bound (r :: t) else q == 1584
def look : List Int → Bool
  | [] => false
  | q :: t => if mrk q = true then look t else pct q
def nflg : List Int → Int
  | [] => 0
  | q :: t => if flg q = true then nflg t + 1 else 0
def cutS : List Int → Int → Bool
  | [], _ => false
  | q :: rest, p =>
    if q = 13 ∧ p = 10 then false
    else if (ctl q || ctl p) = true then true
    else if (syl q p || mrk p) = true then false
    else if (1536 ≤ p ∧ p ≤ 1567) ∧ bound (q :: rest) = true then false
    else if q = 7936 ∧ pct p = true then !look rest
    else if flg q = true ∧ flg p = true then nflg (q :: rest) % 2 == 0
    else true
theorem look_next (pre : List Int) (p : Int) : look (p :: pre) = nPic (look pre) p := by
  have e : look (p :: pre) = if mrk p = true then look pre else pct p := rfl
  rw [e]
  unfold nPic
  rcases cc_cases p with h | h | h | h | h | h
  all_goals (rw [h.1]; simp [h]; try (first | omega | (rw [if_neg (by omega)]; omega)))
theorem nflg_next (pre : List Int) (p : Int) : nflg (p :: pre) = nFl (nflg pre) p := by
  have e : nflg (p :: pre) = if flg p = true then nflg pre + 1 else 0 := rfl
  rw [e]
  unfold nFl
  rcases cc_cases p with h | h | h | h | h | h
  all_goals (rw [h.1]; simp [h]; try omega)
theorem bound_next (pre : List Int) (p : Int) : bound (p :: pre) = nBind (bound pre) p := by
  unfold nBind
  cases pre with
  | nil => simp [bound]
  | cons r t =>
    show (if p = 1585 then bound (r :: t) else p == 1584) = _
    by_cases h : p = 1585
    · subst h; simp
    · rw [if_neg h]; simp [h]
theorem nflg_nonneg : ∀ l : List Int, 0 ≤ nflg l
  | [] => by decide
  | q :: t => by have := nflg_nonneg t; unfold nflg; split <;> omega
theorem cut_back (pre : List Int) (p : Int) : cutO pre.head? (look pre) (bound pre) (nflg pre) p = cutS pre p := by
  cases pre with
  | nil => rfl
  | cons q rest =>
    show cut q p (cc p) (cc q) (bound (q :: rest)) (look (q :: rest)) (nflg (q :: rest)) (decide (1536 ≤ p) && decide (p ≤ 1567)) = cutS (q :: rest) p
    have hl : q = 7936 → look (q :: rest) = look rest := by
      intro e; subst e; show (if mrk 7936 = true then look rest else _) = _; rw [if_pos (by decide)]
    rw [cutS]
    unfold cut
    generalize bound (q :: rest) = b
    generalize nflg (q :: rest) = n
    generalize hk : look (q :: rest) = k at hl
    by_cases e1 : q = 13 ∧ p = 10
    · rw [if_pos (by simp [e1]), if_pos e1]
    rw [if_neg (by simpa using e1), if_neg e1]
    have hsyl : syl q p = true ↔ ((cc q == 3 && (cc p == 3 || cc p == 4 || cc p == 6 || cc p == 7)) = true ∨ ((cc q == 4 || cc q == 6) && (cc p == 4 || cc p == 5)) = true ∨ ((cc q == 5 || cc q == 7) && cc p == 5) = true) := by
      unfold syl
      simp only [Bool.and_eq_true, Bool.or_eq_true, beq_iff_eq]
      rcases cc_cases q with h | h | h | h | h | h <;> rcases cc_cases p with g | g | g | g | g | g
      all_goals (have h1 := h; have g1 := g)
      all_goals (repeat' split)
      all_goals (first | omega | (simp only [Bool.or_eq_true, beq_iff_eq, Bool.false_eq_true]; omega) | (exact ⟨fun z => absurd z Bool.false_ne_true, fun z => by omega⟩))
    have hc1 : (cc p == 1 || cc q == 1) = (ctl q || ctl p) := by
      rcases cc_cases q with h | h | h | h | h | h <;> rcases cc_cases p with g | g | g | g | g | g
      all_goals (rw [h.1, g.1]; simp [h, g]; try omega)
    rw [hc1]
    by_cases e2 : (ctl q || ctl p) = true
    · rw [if_pos e2, if_pos e2]
    rw [if_neg e2, if_neg e2]
    have hm : (cc p == 2) = mrk p := by
      rcases cc_cases p with g | g | g | g | g | g
      all_goals (rw [g.1]; simp [g]; try omega)
    rw [hm]
    by_cases e3 : (syl q p || mrk p) = true
    · rw [if_pos e3]
      rcases Bool.or_eq_true_iff.1 e3 with z | z
      · rcases hsyl.1 z with y | y | y
        · rw [if_pos y]
        · rw [if_pos y]; split <;> rfl
        · rw [if_pos y]; split; rfl; split <;> rfl
      · rw [if_pos z]; split; rfl; split; rfl; split <;> rfl
    rw [if_neg e3]
    have n1 : ¬ syl q p = true := fun z => e3 (by simp [z])
    have n2 : ¬ mrk p = true := fun z => e3 (by simp [z])
    rw [if_neg (fun z => n1 (hsyl.2 (.inl z))), if_neg (fun z => n1 (hsyl.2 (.inr (.inl z)))), if_neg (fun z => n1 (hsyl.2 (.inr (.inr z)))), if_neg n2]
    by_cases e4 : (1536 ≤ p ∧ p ≤ 1567) ∧ b = true
    · rw [if_pos (by simp [e4]), if_pos e4]
    rw [if_neg (by simpa [and_assoc] using e4), if_neg e4]
    have hp : (cc p == 8) = pct p := by
      rcases cc_cases p with g | g | g | g | g | g
      all_goals (rw [g.1]; simp [g]; try omega)
    have hf : ∀ x, (cc x == 9) = flg x := by
      intro x
      rcases cc_cases x with g | g | g | g | g | g
      all_goals (rw [g.1]; simp [g]; try omega)
    rw [hp, hf, hf]
    have hn2 := Int.emod_two_eq n
    by_cases e5 : q = 7936 ∧ pct p = true
    · rw [if_pos e5]
      have hfq : flg q = false := by rw [e5.1]; decide
      rw [← hl e5.1]
      cases k with
      | true => rw [if_pos (by simp [e5])]; rfl
      | false => rw [if_neg (by simp), if_neg (by simp [hfq])]; rfl
    · rw [if_neg e5, if_neg (by intro z; simp only [Bool.and_eq_true, beq_iff_eq] at z; exact e5 z.1)]
      by_cases e6 : flg q = true ∧ flg p = true
      · rw [if_pos e6, e6.1, e6.2]
        rcases hn2 with z | z
        · rw [z]; rfl
        · rw [z]; rfl
      · rw [if_neg e6, if_neg (by intro z; simp only [Bool.and_eq_true, beq_iff_eq] at z; exact e6 ⟨z.1.2, z.1.1⟩)]
theorem go_back : ∀ (l pre : List Int), go pre.head? (look pre) (bound pre) (nflg pre) l = (List.range l.length).map (fun i => cutS ((l.take i).reverse ++ pre) (l.getD i 0))
  | [], _ => rfl
  | p :: t, pre => by
    have ih := go_back t (p :: pre)
    rw [look_next, bound_next, nflg_next] at ih
    rw [go, cut_back, List.head?_cons] at *
    rw [ih, List.length_cons, List.range_succ_eq_map, List.map_cons, List.map_map]
    congr 1
    apply List.map_congr_left
    intro i _
    simp
def St (prev : Option Int) (pic bind : Bool) (fl : Int) : Prop := match prev with
  | none => pic = false ∧ bind = false ∧ fl = 0
  | some q => (cc q = 1 → pic = false) ∧ (bind = true → q = 1584 ∨ q = 1585) ∧ (cc q ≠ 9 → fl = 0)
theorem St.next {prev : Option Int} {pic bind : Bool} {fl : Int} (p : Int) : St (some p) (nPic pic p) (nBind bind p) (nFl fl p) := by
  refine ⟨fun h => ?_, fun h => ?_, fun h => ?_⟩
  · unfold nPic; rw [if_neg (by omega), h]; rfl
  · unfold nBind at h; simp at h; omega
  · unfold nFl; rw [if_neg h]
open Go.Lib (decodeN)
abbrev S := Option Int × Bool × Bool × Int
def s0 : S := (none, false, false, 0)
def fromsAt (l : List Int) (i : Int) : List Int := (readsAt l i).map (fun x => x.2.1)
theorem fromsAt_cons {l : List Int} (h : l ≠ []) (i : Int) : fromsAt l i = i :: fromsAt (l.drop (dec l).2) (i + (dec l).2) := by
  unfold fromsAt; rw [readsAt_cons h]; rfl
theorem fromsAt_length (l : List Int) (i : Int) : (fromsAt l i).length = (pts l).length := by
  unfold fromsAt readsAt
  have := congrArg List.length (readsF_pts l.length l i)
  rw [List.length_map] at this ⊢
  exact this
def sel : List Int → List Bool → List Int
  | f :: fs, c :: cs => (if c = true then [f] else []) ++ sel fs cs
  | _, _ => []
theorem sel_drop {F : List Int} {C : List Bool} {i : Nat} (h1 : i < F.length) (h2 : i < C.length) : sel (F.drop i) (C.drop i) = (if C[i] = true then [F[i]] else []) ++ sel (F.drop (i + 1)) (C.drop (i + 1)) := by
  rw [List.drop_eq_getElem_cons h1, List.drop_eq_getElem_cons h2]; rfl
theorem empty_of {t : ByteArray} (h : bytesOf t = []) : t = ⟨#[]⟩ := bytesOf_inj (h.trans rfl)
def Inc (M : List Int) : Prop := ∀ (j : Nat) (hj : j + 1 < M.length), M[j] < M[j + 1]
theorem Inc.tail {c : Int} {L : List Int} (h : Inc (c :: L)) : Inc L := fun j hj => by have := h (j + 1) (by simpa using hj); simpa using this
theorem Inc.head {c : Int} {L : List Int} (h : Inc (c :: L)) : ∀ x ∈ L, c < x := by
  induction L generalizing c with
  | nil => intro x hx; cases hx
  | cons d L ih =>
    intro x hx
    have h0 : c < d := by have := h 0 (by simp); simpa using this
    rcases List.mem_cons.1 hx with z | z
    · rw [z]; exact h0
    · have := ih h.tail x z; omega
end Go.Proofs.YtiabgmddnddeiaaDoorChr
