/- A plain text of the law FnNormer, what the law uses of it, taken out by a program of this session's (wip/tool/prune.py). -/
import Derived.Test.YtiabgmddnddeiaaDoorVFnNormerSrt
namespace Go.Proofs.YtiabgmddnddeiaaDoorNrm
open Go.Proofs.YtiabgmddnddeiaaDoorSrt
def cls (p : Int) : Int :=
  if p = 1584 then 9 else if p = 1585 then 7 else if p < 4096 ∨ 4159 < p then 0
  else if p < 4112 then 230 else if p < 4128 then 220 else if p < 4136 then 202 else if p < 4144 then 1 else if p < 4152 then 232 else 0
def letter (i : Int) : Int := if i < 26 then 65 + i else 71 + i
def dec (k : Bool) (p : Int) : List Int :=
  if 8192 ≤ p ∧ p ≤ 9631 ∧ p % 512 < 416 then
    if p < 8704 then [letter (p % 512 / 8), 4096 + p % 8]
    else if p < 9216 then [letter (p % 512 / 8), 4112 + p % 8]
    else [letter (p % 512 / 8), 4112 + p % 8, 4096]
  else if 9728 ≤ p ∧ p ≤ 9753 then [p - 9663]
  else if 12288 ≤ p ∧ p ≤ 23459 then
    if 0 < (p - 12288) % 28 then [1792 + (p - 12288) / 588, 1824 + (p - 12288) / 28 % 21, 1856 + (p - 12288) % 28]
    else [1792 + (p - 12288) / 588, 1824 + (p - 12288) / 28 % 21]
  else if k = true ∧ 9984 ≤ p ∧ p ≤ 10009 then [p - 9919]
  else if k = true ∧ 10016 ≤ p ∧ p ≤ 10025 then [p - 9968]
  else if k = true ∧ (p = 8064 ∨ p = 160) then [32]
  else if k = true ∧ p = 10032 then [102, 102]
  else if k = true ∧ p = 10033 then [102, 105]
  else if k = true ∧ p = 10034 then [102, 108]
  else if k = true ∧ p = 10035 then [115, 116]
  else [p]
def lno (p : Int) : Int := if 65 ≤ p ∧ p ≤ 90 then p - 65 else if 97 ≤ p ∧ p ≤ 122 then p - 71 else -1
def pair (a b : Int) : Int :=
  if 0 ≤ lno a ∧ 4096 ≤ b ∧ b ≤ 4103 then 8192 + 8 * lno a + (b - 4096)
  else if 0 ≤ lno a ∧ 4112 ≤ b ∧ b ≤ 4119 then 8704 + 8 * lno a + (b - 4112)
  else if 8704 ≤ a ∧ a ≤ 9119 ∧ b = 4096 then a + 512
  else if 1792 ≤ a ∧ a ≤ 1810 ∧ 1824 ≤ b ∧ b ≤ 1844 then 12288 + (21 * (a - 1792) + (b - 1824)) * 28
  else if 12288 ≤ a ∧ a ≤ 23459 ∧ (a - 12288) % 28 = 0 ∧ 1857 ≤ b ∧ b ≤ 1883 then a + (b - 1856)
  else -1
theorem cls_big {p : Int} (h : 4159 < p) : cls p = 0 := by
  unfold cls; rw [if_neg (by omega), if_neg (by omega), if_pos (by omega)]
theorem cls_range (p : Int) : 0 ≤ cls p ∧ cls p ≤ 232 := by unfold cls; repeat' split
                                                            all_goals omega
theorem letter_range {i : Int} (h : 0 ≤ i) (h2 : i < 52) : 65 ≤ letter i ∧ letter i ≤ 122 := by unfold letter; split <;> omega
theorem letter_lno {a : Int} (h : 0 ≤ lno a) : letter (lno a) = a ∧ lno a < 52 ∧ 65 ≤ a ∧ a ≤ 122 := by
  unfold lno at h ⊢; unfold letter
  repeat' split at h
  all_goals (repeat' split) <;> omega
theorem dec_other {k : Bool} {p : Int} (h : p < 160 ∨ (160 < p ∧ p < 8064) ∨ (8064 < p ∧ p < 8192) ∨ 23459 < p) : dec k p = [p] := by
  unfold dec
  repeat (rw [if_neg (by omega)])
theorem dec_ne (k : Bool) (p : Int) : dec k p ≠ [] := by
  unfold dec; repeat' split
  all_goals simp
def second (p : Int) : Prop := (4096 ≤ p ∧ p ≤ 4103) ∨ (4112 ≤ p ∧ p ≤ 4119) ∨ (1824 ≤ p ∧ p ≤ 1844) ∨ (1857 ≤ p ∧ p ≤ 1883)
instance (p : Int) : Decidable (second p) := inferInstanceAs (Decidable (_ ∨ _))
theorem pair_second {a b : Int} (h : 0 ≤ pair a b) : second b := by
  unfold second
  unfold pair at h
  repeat' split at h
  all_goals omega
theorem pair_range {a b : Int} (h : 0 ≤ pair a b) : 8192 ≤ pair a b ∧ pair a b ≤ 23459 ∧ cls (pair a b) = 0 ∧ 0 ≤ a ∧ a ≤ 23459 := by
  have g : 8192 ≤ pair a b ∧ pair a b ≤ 23459 ∧ 0 ≤ a ∧ a ≤ 23459 := by
    have hl := @letter_lno a
    unfold pair at h ⊢
    repeat' split at h
    all_goals (repeat' split) <;> omega
  exact ⟨g.1, g.2.1, cls_big (by omega), g.2.2⟩
def insM (x : Int) : List Int → List Int
  | [] => [x]
  | y :: t => if cls x ≠ 0 ∧ cls y ≠ 0 ∧ cls y < cls x then y :: insM x t else x :: y :: t
def ord (l : List Int) : List Int := l.foldr insM []
theorem ord_cons (x : Int) (l : List Int) : ord (x :: l) = insM x (ord l) := rfl
theorem ord_append (a b : List Int) : ord (a ++ b) = a.foldr insM (ord b) := by unfold ord; rw [List.foldr_append]
theorem ord_append_congr (a : List Int) {b c : List Int} (h : ord b = ord c) : ord (a ++ b) = ord (a ++ c) := by rw [ord_append, ord_append, h]
theorem insM_zero {x : Int} (h : cls x = 0) (l : List Int) : insM x l = x :: l := by
  cases l with
  | nil => rfl
  | cons y t => unfold insM; rw [if_neg (by omega)]
theorem insM_swap {x y : Int} (hx : cls x ≠ 0) (hy : cls y ≠ 0) (hxy : cls x < cls y) (l : List Int) : insM x (insM y l) = insM y (insM x l) := by
  induction l with
  | nil =>
    show insM x [y] = insM y [x]
    unfold insM
    rw [if_neg (by omega), if_pos (by omega)]; rfl
  | cons z t ih =>
    by_cases c1 : cls z ≠ 0 ∧ cls z < cls y
    · have e1 : insM y (z :: t) = z :: insM y t := by rw [insM]; rw [if_pos ⟨hy, c1⟩]
      rw [e1]
      by_cases c2 : cls z < cls x
      · have e2 : insM x (z :: t) = z :: insM x t := by rw [insM]; rw [if_pos ⟨hx, c1.1, c2⟩]
        rw [e2, insM, if_pos ⟨hx, c1.1, c2⟩, insM, if_pos ⟨hy, c1⟩, ih]
      · have e2 : insM x (z :: t) = x :: z :: t := by rw [insM]; rw [if_neg (by omega)]
        rw [e2, insM, if_neg (by omega), insM, if_pos ⟨hy, hx, hxy⟩, e1]
    · have e1 : insM y (z :: t) = y :: z :: t := by rw [insM]; rw [if_neg (by omega)]
      have e2 : insM x (z :: t) = x :: z :: t := by rw [insM]; rw [if_neg (by omega)]
      rw [e1, e2, insM, if_neg (by omega), insM, if_pos ⟨hy, hx, hxy⟩, e1]
theorem insM_comm {x y : Int} (hx : cls x ≠ 0) (hy : cls y ≠ 0) (hxy : cls x ≠ cls y) (l : List Int) : insM x (insM y l) = insM y (insM x l) := by
  rcases Int.lt_or_gt_of_ne hxy with h | h
  · exact insM_swap hx hy h l
  · exact (insM_swap hy hx h l).symm
theorem fold_past {x : Int} (hx : cls x ≠ 0) : ∀ (a m : List Int), (∀ y ∈ a, cls y ≠ 0 ∧ cls y ≠ cls x) → a.foldr insM (insM x m) = insM x (a.foldr insM m)
  | [], _, _ => rfl
  | y :: a, m, h => by
    have h0 := h y (by simp)
    show insM y (a.foldr insM (insM x m)) = insM x (insM y (a.foldr insM m))
    rw [fold_past hx a m (fun z hz => h z (by simp [hz])), insM_comm hx h0.1 (fun e => h0.2 e.symm)]
theorem insM_perm (x : Int) (l : List Int) : (insM x l).Perm (x :: l) := by
  induction l with
  | nil => exact .refl _
  | cons y t ih =>
    unfold insM
    split
    · exact (ih.cons y).trans (.swap x y t)
    · exact .refl _
theorem ord_perm (l : List Int) : (ord l).Perm l := by
  induction l with
  | nil => exact .refl _
  | cons x t ih => rw [ord_cons]; exact (insM_perm x _).trans (ih.cons x)
def inord : List Int → Prop
  | [] => True
  | [_] => True
  | x :: y :: t => (cls y = 0 ∨ cls x ≤ cls y) ∧ inord (y :: t)
theorem inord_tail {x : Int} {l : List Int} (h : inord (x :: l)) : inord l := by
  cases l with
  | nil => trivial
  | cons y t => exact h.2
theorem ord_of_inord : ∀ {l : List Int}, inord l → ord l = l
  | [], _ => rfl
  | [x], _ => rfl
  | x :: y :: t, h => by
    rw [ord_cons, ord_of_inord h.2]
    unfold insM
    rw [if_neg (by have := h.1; omega)]
theorem insM_inord {x : Int} {l : List Int} (h : inord l) : inord (insM x l) := by
  induction l with
  | nil => trivial
  | cons y t ih =>
    unfold insM
    split
    · rename_i c
      have ih := ih (inord_tail h)
      cases t with
      | nil => exact ⟨by omega, trivial⟩
      | cons z t =>
        unfold insM at ih ⊢
        split
        · rename_i c2
          rw [if_pos c2] at ih
          exact ⟨h.1, ih⟩
        · rename_i c2
          rw [if_neg c2] at ih
          exact ⟨by omega, ih⟩
    · rename_i c
      have := cls_range x
      have := cls_range y
      exact ⟨by omega, h⟩
theorem ord_inord (l : List Int) : inord (ord l) := by
  induction l with
  | nil => trivial
  | cons x t ih => exact insM_inord ih
def D (k : Bool) (l : List Int) : List Int := ord (l.flatMap (dec k))
def free (tail : List Int) (p : Int) : Prop := ∀ q ∈ tail, cls q ≠ 0 ∧ cls q < cls p
instance (tail : List Int) (p : Int) : Decidable (free tail p) := inferInstanceAs (Decidable (∀ q ∈ tail, _))
def cmp1 (s : Int) (tail : List Int) : List Int → List Int
  | [] => s :: tail
  | p :: t => if free tail p ∧ 0 ≤ pair s p then cmp1 (pair s p) tail t
    else if cls p = 0 then s :: tail ++ cmp1 p [] t else cmp1 s (tail ++ [p]) t
def cmp0 : List Int → List Int
  | [] => []
  | p :: t => if cls p = 0 then cmp1 p [] t else p :: cmp0 t
def C (k : Bool) (l : List Int) : List Int := cmp0 (D k l)
def nf (form : Int) (l : List Int) : List Int := if form = 1 ∨ form = 3 then D (decide (3 ≤ form)) l else C (decide (3 ≤ form)) l
theorem insM_append {x : Int} {a : List Int} {h : Int} {b : List Int} (hh : cls h = 0) : insM x (a ++ h :: b) = insM x a ++ h :: b := by
  induction a with
  | nil => show insM x (h :: b) = x :: h :: b
           rw [insM, if_neg (by omega)]
  | cons y t ih =>
    rw [List.cons_append, insM, insM]
    split
    · rw [ih]; rfl
    · rfl
theorem ord_split {a : List Int} {h : Int} {b : List Int} (hh : cls h = 0) : ord (a ++ h :: b) = ord a ++ h :: ord b := by
  induction a with
  | nil => show ord (h :: b) = h :: ord b
           rw [ord_cons, insM_zero hh]
  | cons y t ih => rw [List.cons_append, ord_cons, ord_cons, ih, insM_append hh]
theorem pair_not {a b : Int} (h : ¬ second b) : pair a b < 0 := by
  by_cases h0 : 0 ≤ pair a b
  · exact absurd (pair_second h0) h
  · omega
theorem cmp1_split {h : Int} (hh : cls h = 0) (h2 : ¬ second h) (b : List Int) : ∀ (a : List Int) (s : Int) (tail : List Int), cmp1 s tail (a ++ h :: b) = cmp1 s tail a ++ cmp1 h [] b
  | [], s, tail => by
    have := pair_not (a := s) h2
    show cmp1 s tail (h :: b) = _
    rw [cmp1.eq_2, if_neg (by omega), if_pos hh, cmp1.eq_1]
  | p :: a, s, tail => by
    rw [List.cons_append, cmp1, cmp1]
    split
    · exact cmp1_split hh h2 b a _ _
    · split
      · rw [cmp1_split hh h2 b a, List.append_assoc]
      · exact cmp1_split hh h2 b a _ _
theorem cmp0_split {h : Int} (hh : cls h = 0) (h2 : ¬ second h) (b : List Int) : ∀ (a : List Int), cmp0 (a ++ h :: b) = cmp0 a ++ cmp0 (h :: b)
  | [] => rfl
  | p :: a => by
    rw [List.cons_append, cmp0, cmp0]
    split
    · rw [cmp1_split hh h2, cmp0, if_pos hh]
    · rw [cmp0_split hh h2 b a]; rfl
def first (k : Bool) (p : Int) : Int := (dec k p).headD p
def safe (k : Bool) (p : Int) : Prop := cls (first k p) = 0 ∧ ¬ second (first k p)
instance (k : Bool) (p : Int) : Decidable (safe k p) := inferInstanceAs (Decidable (_ ∧ _))
theorem dec_first (k : Bool) (p : Int) : dec k p = first k p :: (dec k p).tail := by
  unfold first
  cases h : dec k p with
  | nil => exact absurd h (dec_ne k p)
  | cons x t => rfl
theorem D_split {k : Bool} {p : Int} (h : cls (first k p) = 0) (a b : List Int) : D k (a ++ p :: b) = D k a ++ D k (p :: b) := by
  unfold D
  rw [List.flatMap_append, List.flatMap_cons, dec_first k p, List.cons_append, ord_split h, ord_cons, insM_zero h]
theorem D_safe {k : Bool} {p : Int} (h : cls (first k p) = 0) (b : List Int) : D k (p :: b) = first k p :: ord ((dec k p).tail ++ b.flatMap (dec k)) := by
  unfold D
  rw [List.flatMap_cons, dec_first k p, List.cons_append, ord_cons, insM_zero h]
  rfl
theorem C_split {k : Bool} {p : Int} (h : safe k p) (a b : List Int) : C k (a ++ p :: b) = C k a ++ C k (p :: b) := by
  unfold C
  rw [D_split h.1, D_safe h.1, cmp0_split h.1 h.2]
theorem nf_split {f : Int} {p : Int} (h : safe (decide (3 ≤ f)) p) (a b : List Int) : nf f (a ++ p :: b) = nf f a ++ nf f (p :: b) := by
  unfold nf
  split
  · exact D_split h.1 a b
  · exact C_split h a b
theorem nf_nil (f : Int) : nf f [] = [] := by unfold nf; split <;> rfl
def comp (p : Int) : Prop := (8192 ≤ p ∧ p ≤ 9631 ∧ p % 512 < 416) ∨ (12288 ≤ p ∧ p ≤ 23459)
instance (p : Int) : Decidable (comp p) := inferInstanceAs (Decidable (_ ∨ _))
theorem inord_right : ∀ {a b : List Int}, inord (a ++ b) → inord b
  | [], _, h => h
  | _ :: _, _, h => inord_right (inord_tail h)
theorem inord_left : ∀ {a b : List Int}, inord (a ++ b) → inord a
  | [], _, _ => trivial
  | [_], _, _ => trivial
  | _ :: y :: a, _, h => ⟨h.1, inord_left (a := y :: a) h.2⟩
theorem inord_join0 {h : Int} (hh : cls h = 0) {b : List Int} (hb : inord (h :: b)) : ∀ {a : List Int}, inord a → inord (a ++ h :: b)
  | [], _ => hb
  | [_], _ => ⟨.inl hh, hb⟩
  | _ :: y :: a, ha => ⟨ha.1, inord_join0 hh hb (a := y :: a) ha.2⟩
theorem inord_drop {p : Int} {t : List Int} : ∀ {tail : List Int}, inord (tail ++ p :: t) → free tail p → inord (tail ++ t)
  | [], h, _ => inord_tail h
  | [x], h, hf => by
    have hx := hf x (by simp)
    have h1 : inord (x :: p :: t) := h
    cases t with
    | nil => trivial
    | cons y t =>
      have h2 := h1.2.1
      exact ⟨by omega, h1.2.2⟩
  | x :: y :: a, h, hf => ⟨h.1, inord_drop (tail := y :: a) h.2 (fun q hq => hf q (by simp at hq; simp [hq]))⟩
theorem srt_inord : ∀ {l : List Int}, srt cls l → inord l
  | [], _ => trivial
  | [_], _ => trivial
  | x :: y :: t, h => by
    obtain ⟨h1, h2⟩ := List.pairwise_cons.1 h
    exact ⟨.inr (h1 y (by simp)), srt_inord h2⟩
theorem key_split (c : Int) : ∀ (b : List Int) (s : List Int) (x : Int), cls x = c → x :: s = b.filter (fun y => cls y == c) → ∃ p q, b = p ++ x :: q ∧ (∀ y ∈ p, cls y ≠ c) ∧ s = q.filter (fun y => cls y == c) := by
  intro b
  induction b with
  | nil => intro s x _ h; cases h
  | cons y t ih =>
    intro s x hxc h
    by_cases hy : cls y = c
    · rw [List.filter_cons_of_pos (by simp [hy])] at h
      injection h with h1 h2
      exact ⟨[], t, by rw [h1]; rfl, by simp, h2⟩
    · rw [List.filter_cons_of_neg (by simp [hy])] at h
      obtain ⟨p, q, h1, h2, h3⟩ := ih s x hxc h
      exact ⟨y :: p, q, by rw [h1]; rfl, by
        intro z hz
        rcases List.mem_cons.1 hz with rfl | hz
        · exact hy
        · exact h2 z hz, h3⟩
theorem fold_same : ∀ (a b m : List Int), (∀ q ∈ a, cls q ≠ 0) → same cls a b → a.foldr insM m = b.foldr insM m
  | [], b, m, _, h => by
    have := h.perm_len
    cases b with
    | nil => rfl
    | cons y t => simp at this
  | x :: a, b, m, ha, h => by
    have hf := h (cls x)
    rw [List.filter_cons_of_pos (by simp)] at hf
    obtain ⟨p, q, hb, hp, hs⟩ := key_split (cls x) b _ x rfl hf
    subst hb
    have h2 : same cls a (p ++ q) := by
      intro c
      by_cases hc : cls x = c
      · subst hc
        rw [hs, List.filter_append]
        have : p.filter (fun y => cls y == cls x) = [] := List.filter_eq_nil_iff.2 (fun y hy => by simpa using hp y hy)
        rw [this, List.nil_append]
      · have := h c
        rw [List.filter_cons_of_neg (by simpa using hc), List.filter_append, List.filter_cons_of_neg (by simpa using hc)] at this
        rw [this, List.filter_append]
    have ih := fold_same a (p ++ q) m (fun r hr => ha r (by simp [hr])) h2
    rw [List.foldr_append] at ih
    rw [List.foldr_append]
    show insM x (a.foldr insM m) = p.foldr insM (insM x (q.foldr insM m))
    rw [fold_past (ha x (by simp)) p _ (fun y hy => ⟨ha y (h.symm.mem (by simp [hy])), hp y hy⟩), ih]
theorem ord_same {p a b q : List Int} (ha : ∀ x ∈ a, cls x ≠ 0) (h : same cls a b) : ord (p ++ (a ++ q)) = ord (p ++ (b ++ q)) := by
  apply ord_append_congr
  rw [ord_append, ord_append, fold_same a b _ ha h]
theorem ord_swap {a b : List Int} {x y : Int} (hx : cls x ≠ 0) (hy : cls y ≠ 0) (h : cls x ≠ cls y) : ord (a ++ x :: y :: b) = ord (a ++ y :: x :: b) := by
  apply ord_append_congr
  exact insM_comm hx hy h _
def meets (a b : List Int) : Prop := ∀ x y, a.getLast? = some x → b.head? = some y → cls y = 0 ∨ cls x ≤ cls y
theorem inord_join : ∀ {a b : List Int}, inord a → inord b → meets a b → inord (a ++ b)
  | [], _, _, hb, _ => hb
  | [x], [], _, _, _ => trivial
  | [x], y :: b, _, hb, h => ⟨h x y rfl rfl, hb⟩
  | x :: y :: a, b, ha, hb, h => ⟨ha.1, inord_join (a := y :: a) ha.2 hb (fun u v hu hv => h u v (by rw [List.getLast?_cons_cons]; exact hu) hv)⟩
theorem inord_last : ∀ {a : List Int} {z : Int}, inord a → (∀ q ∈ a, cls q ≠ 0) → a.getLast? = some z → ∀ q ∈ a, cls q ≤ cls z
  | [], _, _, _, h => by cases h
  | [x], z, _, _, h => by
    injection h with h; subst h
    intro q hq; rw [List.mem_singleton.1 hq]; exact Int.le_refl _
  | x :: y :: t, z, ha, h0, h => by
    have ih := inord_last (a := y :: t) ha.2 (fun q hq => h0 q (by simp at hq; simp [hq])) (by rw [List.getLast?_cons_cons] at h; exact h)
    intro q hq
    rcases List.mem_cons.1 hq with rfl | hq
    · have h1 := ha.1
      have h2 := h0 y (by simp)
      have h3 := ih y (by simp)
      omega
    · exact ih q hq
theorem free_last {tail : List Int} {p : Int} {t : List Int} (h0 : ∀ q ∈ tail, cls q ≠ 0) (h : inord (tail ++ p :: t)) : free tail p ↔ (tail = [] ∨ ∃ z, tail.getLast? = some z ∧ cls z < cls p) := by
  constructor
  · intro hf
    cases hl : tail.getLast? with
    | none => exact .inl (List.getLast?_eq_none_iff.1 hl)
    | some z => exact .inr ⟨z, rfl, (hf z (List.mem_of_getLast? hl)).2⟩
  · rintro (rfl | ⟨z, hz, hlt⟩)
    · intro q hq; cases hq
    · intro q hq
      have := inord_last (inord_left h) h0 hz q hq
      exact ⟨h0 q hq, by omega⟩
def prt (k : Bool) (p : Int) : List Int :=
  if 8192 ≤ p ∧ p ≤ 9631 ∧ p % 512 < 416 then
    if p < 8704 then [letter (p % 512 / 8), 4096 + p % 8]
    else if p < 9216 then [letter (p % 512 / 8), 4112 + p % 8]
    else [8704 + p % 512, 4096]
  else if 9728 ≤ p ∧ p ≤ 9753 then [p - 9663]
  else if 12288 ≤ p ∧ p ≤ 23459 then
    if 0 < (p - 12288) % 28 then [p - (p - 12288) % 28, 1856 + (p - 12288) % 28]
    else [1792 + (p - 12288) / 588, 1824 + (p - 12288) / 28 % 21]
  else if k = true ∧ 9984 ≤ p ∧ p ≤ 10009 then [p - 9919]
  else if k = true ∧ 10016 ≤ p ∧ p ≤ 10025 then [p - 9968]
  else if k = true ∧ (p = 8064 ∨ p = 160) then [32]
  else if k = true ∧ p = 10032 then [102, 102]
  else if k = true ∧ p = 10033 then [102, 105]
  else if k = true ∧ p = 10034 then [102, 108]
  else if k = true ∧ p = 10035 then [115, 116]
  else []
theorem prt_nil {k : Bool} {p : Int} (h : prt k p = []) : dec k p = [p] := by
  unfold prt at h
  unfold dec
  repeat' split at h
  all_goals first
    | (cases h; done)
    | (repeat (rw [if_neg (by assumption)]))
theorem prt_dec {k : Bool} {p : Int} (h : prt k p ≠ []) : (prt k p).flatMap (dec k) = dec k p := by
  have lc : ∀ i : Int, 0 ≤ i → i < 52 → dec k (letter i) = [letter i] := fun i h0 h1 => dec_other (by have := letter_range h0 h1; omega)
  by_cases c1 : 8192 ≤ p ∧ p ≤ 9631 ∧ p % 512 < 416
  · have l1 := lc (p % 512 / 8) (by omega) (by omega)
    have l2 : dec k (4096 + p % 8) = [4096 + p % 8] := dec_other (by omega)
    have l3 : dec k (4112 + p % 8) = [4112 + p % 8] := dec_other (by omega)
    have l4 : dec k 4096 = [4096] := dec_other (by omega)
    unfold prt
    rw [if_pos c1]
    by_cases c2 : p < 8704
    · rw [if_pos c2, List.flatMap_cons, List.flatMap_cons, l1, l2]; unfold dec; rw [if_pos c1, if_pos c2]; rfl
    · rw [if_neg c2]
      by_cases c3 : p < 9216
      · rw [if_pos c3, List.flatMap_cons, List.flatMap_cons, l1, l3]; unfold dec; rw [if_pos c1, if_neg c2, if_pos c3]; rfl
      · have l5 : dec k (8704 + p % 512) = [letter (p % 512 / 8), 4112 + p % 8] := by
          unfold dec
          rw [if_pos (by omega), if_neg (by omega), if_pos (by omega), show (8704 + p % 512) % 512 = p % 512 by omega, show (8704 + p % 512) % 8 = p % 8 by omega]
        rw [if_neg c3, List.flatMap_cons, List.flatMap_cons, l5, l4]; unfold dec; rw [if_pos c1, if_neg c2, if_neg c3]; rfl
  · by_cases c2 : 9728 ≤ p ∧ p ≤ 9753
    · unfold prt dec
      rw [if_neg c1, if_pos c2, if_neg c1, if_pos c2]
      show dec k (p - 9663) ++ [] = _
      rw [dec_other (by omega)]; rfl
    · by_cases c3 : 12288 ≤ p ∧ p ≤ 23459
      · have l1 : dec k (1792 + (p - 12288) / 588) = [1792 + (p - 12288) / 588] := dec_other (by omega)
        have l2 : dec k (1824 + (p - 12288) / 28 % 21) = [1824 + (p - 12288) / 28 % 21] := dec_other (by omega)
        have l3 : dec k (1856 + (p - 12288) % 28) = [1856 + (p - 12288) % 28] := dec_other (by omega)
        unfold prt
        rw [if_neg c1, if_neg c2, if_pos c3]
        by_cases c4 : 0 < (p - 12288) % 28
        · have l4 : dec k (p - (p - 12288) % 28) = [1792 + (p - 12288) / 588, 1824 + (p - 12288) / 28 % 21] := by
            unfold dec
            rw [if_neg (by omega), if_neg (by omega), if_pos (by omega), if_neg (by omega), show 1792 + (p - (p - 12288) % 28 - 12288) / 588 = 1792 + (p - 12288) / 588 by omega, show 1824 + (p - (p - 12288) % 28 - 12288) / 28 % 21 = 1824 + (p - 12288) / 28 % 21 by omega]
          rw [if_pos c4, List.flatMap_cons, List.flatMap_cons, l4, l3]; unfold dec; rw [if_neg c1, if_neg c2, if_pos c3, if_pos c4]; rfl
        · rw [if_neg c4, List.flatMap_cons, List.flatMap_cons, l1, l2]; unfold dec; rw [if_neg c1, if_neg c2, if_pos c3, if_neg c4]; rfl
      · unfold prt dec
        rw [if_neg c1, if_neg c2, if_neg c3, if_neg c1, if_neg c2, if_neg c3]
        have fin1 : ∀ x : Int, 0 ≤ x → x < 128 → List.flatMap (dec k) [x] = [x] := fun x h0 h1 => by
          show dec k x ++ [] = _
          rw [dec_other (by omega)]; rfl
        have fin2 : ∀ x y : Int, 0 ≤ x → x < 128 → 0 ≤ y → y < 128 → List.flatMap (dec k) [x, y] = [x, y] := fun x y h0 h1 h2 h3 => by
          show dec k x ++ (dec k y ++ []) = _
          rw [dec_other (by omega), dec_other (by omega)]; rfl
        by_cases d1 : k = true ∧ 9984 ≤ p ∧ p ≤ 10009
        · rw [if_pos d1, if_pos d1]; exact fin1 _ (by omega) (by omega)
        rw [if_neg d1, if_neg d1]
        by_cases d2 : k = true ∧ 10016 ≤ p ∧ p ≤ 10025
        · rw [if_pos d2, if_pos d2]; exact fin1 _ (by omega) (by omega)
        rw [if_neg d2, if_neg d2]
        by_cases d3 : k = true ∧ (p = 8064 ∨ p = 160)
        · rw [if_pos d3, if_pos d3]; exact fin1 _ (by omega) (by omega)
        rw [if_neg d3, if_neg d3]
        by_cases d4 : k = true ∧ p = 10032
        · rw [if_pos d4, if_pos d4]; exact fin2 _ _ (by omega) (by omega) (by omega) (by omega)
        rw [if_neg d4, if_neg d4]
        by_cases d5 : k = true ∧ p = 10033
        · rw [if_pos d5, if_pos d5]; exact fin2 _ _ (by omega) (by omega) (by omega) (by omega)
        rw [if_neg d5, if_neg d5]
        by_cases d6 : k = true ∧ p = 10034
        · rw [if_pos d6, if_pos d6]; exact fin2 _ _ (by omega) (by omega) (by omega) (by omega)
        rw [if_neg d6, if_neg d6]
        by_cases d7 : k = true ∧ p = 10035
        · rw [if_pos d7, if_pos d7]; exact fin2 _ _ (by omega) (by omega) (by omega) (by omega)
        exfalso
        apply h
        unfold prt
        rw [if_neg c1, if_neg c2, if_neg c3, if_neg d1, if_neg d2, if_neg d3, if_neg d4, if_neg d5, if_neg d6, if_neg d7]
def rk (p : Int) : Nat :=
  if 9216 ≤ p ∧ p ≤ 9631 then 2 else if 12288 ≤ p ∧ p ≤ 23459 ∧ 0 < (p - 12288) % 28 then 2
  else if p = 160 ∨ 8064 = p ∨ (8192 ≤ p ∧ p ≤ 23459) then 1 else 0
theorem rk_zero {p : Int} (h : p < 160 ∨ (160 < p ∧ p < 8064) ∨ 23459 < p) : rk p = 0 := by
  unfold rk; rw [if_neg (by omega), if_neg (by omega), if_neg (by omega)]
theorem rk_pos {p : Int} (h : p = 160 ∨ 8064 = p ∨ (8192 ≤ p ∧ p ≤ 23459)) : 0 < rk p := by
  unfold rk; repeat' split
  all_goals omega
theorem prt_rk {k : Bool} {p : Int} : ∀ q ∈ prt k p, rk q < rk p := by
  have lr := @letter_range (p % 512 / 8)
  have one : ∀ x : Int, (p = 160 ∨ 8064 = p ∨ (8192 ≤ p ∧ p ≤ 23459)) → (x < 160 ∨ (160 < x ∧ x < 8064)) → ∀ q ∈ [x], rk q < rk p := by
    intro x h h2 q hq
    rw [List.mem_singleton.1 hq, rk_zero (by omega)]
    exact rk_pos h
  have two : ∀ x y : Int, (p = 160 ∨ 8064 = p ∨ (8192 ≤ p ∧ p ≤ 23459)) → (x < 160 ∨ (160 < x ∧ x < 8064)) → (y < 160 ∨ (160 < y ∧ y < 8064)) → ∀ q ∈ [x, y], rk q < rk p := by
    intro x y h h2 h3 q hq
    rcases List.mem_cons.1 hq with rfl | hq
    · rw [rk_zero (by omega)]; exact rk_pos h
    · exact one y h h3 q hq
  by_cases c1 : 8192 ≤ p ∧ p ≤ 9631 ∧ p % 512 < 416
  · unfold prt
    rw [if_pos c1]
    by_cases c2 : p < 8704
    · rw [if_pos c2]; exact two _ _ (by omega) (by omega) (by omega)
    · rw [if_neg c2]
      by_cases c3 : p < 9216
      · rw [if_pos c3]; exact two _ _ (by omega) (by omega) (by omega)
      · rw [if_neg c3]
        have e : rk p = 2 := by unfold rk; rw [if_pos (by omega)]
        intro q hq
        rcases List.mem_cons.1 hq with rfl | hq
        · rw [e]; unfold rk; rw [if_neg (by omega), if_neg (by omega), if_pos (by omega)]; omega
        · rw [List.mem_singleton.1 hq, e, rk_zero (by omega)]; omega
  · by_cases c2 : 9728 ≤ p ∧ p ≤ 9753
    · unfold prt
      rw [if_neg c1, if_pos c2]; exact one _ (by omega) (by omega)
    · by_cases c3 : 12288 ≤ p ∧ p ≤ 23459
      · unfold prt
        rw [if_neg c1, if_neg c2, if_pos c3]
        by_cases c4 : 0 < (p - 12288) % 28
        · rw [if_pos c4]
          have e : rk p = 2 := by unfold rk; rw [if_neg (by omega), if_pos (by omega)]
          intro q hq
          rcases List.mem_cons.1 hq with rfl | hq
          · rw [e]; unfold rk; rw [if_neg (by omega), if_neg (by omega), if_pos (by omega)]; omega
          · rw [List.mem_singleton.1 hq, e, rk_zero (by omega)]; omega
        · rw [if_neg c4]; exact two _ _ (by omega) (by omega) (by omega)
      · unfold prt
        rw [if_neg c1, if_neg c2, if_neg c3]
        by_cases d1 : k = true ∧ 9984 ≤ p ∧ p ≤ 10009
        · rw [if_pos d1]; exact one _ (by omega) (by omega)
        rw [if_neg d1]
        by_cases d2 : k = true ∧ 10016 ≤ p ∧ p ≤ 10025
        · rw [if_pos d2]; exact one _ (by omega) (by omega)
        rw [if_neg d2]
        by_cases d3 : k = true ∧ (p = 8064 ∨ p = 160)
        · rw [if_pos d3]; exact one _ (by omega) (by omega)
        rw [if_neg d3]
        by_cases d4 : k = true ∧ p = 10032
        · rw [if_pos d4]; exact two _ _ (by omega) (by omega) (by omega)
        rw [if_neg d4]
        by_cases d5 : k = true ∧ p = 10033
        · rw [if_pos d5]; exact two _ _ (by omega) (by omega) (by omega)
        rw [if_neg d5]
        by_cases d6 : k = true ∧ p = 10034
        · rw [if_pos d6]; exact two _ _ (by omega) (by omega) (by omega)
        rw [if_neg d6]
        by_cases d7 : k = true ∧ p = 10035
        · rw [if_pos d7]; exact two _ _ (by omega) (by omega) (by omega)
        rw [if_neg d7]
        intro q hq; cases hq
def bnd (a b : List Int) : Prop := ∀ x y, a.getLast? = some x → b.head? = some y → cls x = 0 ∨ cls y = 0
theorem bnd_nil (b : List Int) : bnd [] b := fun _ _ h => by cases h
theorem run_split (b : List Int) : ∃ x y, b = x ++ y ∧ (∀ q ∈ x, cls q ≠ 0) ∧ (y = [] ∨ ∃ h t, y = h :: t ∧ cls h = 0) := by
  induction b with
  | nil => exact ⟨[], [], rfl, fun q hq => (by cases hq), .inl rfl⟩
  | cons x t ih =>
    by_cases c : cls x = 0
    · exact ⟨[], x :: t, rfl, fun q hq => (by cases hq), .inr ⟨x, t, rfl, c⟩⟩
    · obtain ⟨a, b, h1, h2, h3⟩ := ih
      exact ⟨x :: a, b, by rw [h1]; rfl, fun q hq => by
        rcases List.mem_cons.1 hq with rfl | hq
        · exact c
        · exact h2 q hq, h3⟩
theorem skip_step {a t m : List Int} {h : Int} (ha : inord a) (hh : cls h = 0) (he : ord (a ++ h :: t) = ord m) : inord (a ++ [h]) ∧ bnd (a ++ [h]) t ∧ ord ((a ++ [h]) ++ t) = ord m := by
  refine ⟨inord_join0 (b := []) hh trivial ha, ?_, by rw [List.append_assoc]; exact he⟩
  intro x y hx _
  rw [List.getLast?_append] at hx
  injection hx with hx
  subst hx
  exact .inl hh
theorem sort_step {a x y z m : List Int} (ha : inord a) (hb : bnd a (x ++ y)) (hx : ∀ q ∈ x, cls q ≠ 0) (hx0 : x ≠ []) (hy : y = [] ∨ ∃ h t, y = h :: t ∧ cls h = 0) (hz : srt cls z) (hs : same cls x z) (he : ord (a ++ (x ++ y)) = ord m) :
    inord (a ++ z) ∧ bnd (a ++ z) y ∧ ord ((a ++ z) ++ y) = ord m := by
  refine ⟨inord_join ha (srt_inord hz) ?_, ?_, ?_⟩
  · intro u v hu hv
    cases x with
    | nil => exact absurd rfl hx0
    | cons h t =>
      have := hb u h hu rfl
      have := hx h (by simp)
      have := cls_range v
      omega
  · intro u v hu hv
    rcases hy with rfl | ⟨h, t, rfl, hh⟩
    · cases hv
    · injection hv with hv; subst hv; exact .inr hh
  · rw [List.append_assoc, ← ord_same hx hs]; exact he
theorem sorted_all {a m : List Int} (ha : inord a) (he : ord (a ++ []) = ord m) : a = ord m := by
  rw [List.append_nil, ord_of_inord ha] at he; exact he
end Go.Proofs.YtiabgmddnddeiaaDoorNrm
