/- A plain text of the law FnNormer, what the law uses of it, taken out by a program of this session's (wip/tool/prune.py). -/
import Derived.Deep.Light
namespace Go.Proofs.YtiabgmddnddeiaaDoorSrt
def srt (key : Int → Int) (l : List Int) : Prop := l.Pairwise (fun x y => key x ≤ key y)
def same (key : Int → Int) (l m : List Int) : Prop := ∀ c, l.filter (fun x => key x == c) = m.filter (fun x => key x == c)
section
variable {key : Int → Int}
theorem same.refl (l : List Int) : same key l l := fun _ => rfl
theorem same.trans {a b c : List Int} (h : same key a b) (k : same key b c) : same key a c := fun x => (h x).trans (k x)
theorem same.symm {a b : List Int} (h : same key a b) : same key b a := fun x => (h x).symm
theorem same.append {a b c d : List Int} (h : same key a b) (k : same key c d) : same key (a ++ c) (b ++ d) := fun x => by rw [List.filter_append, List.filter_append, h x, k x]
theorem same.mem {a b : List Int} (h : same key a b) {x : Int} (hx : x ∈ a) : x ∈ b := by
  have : x ∈ a.filter (fun y => key y == key x) := List.mem_filter.2 ⟨hx, by simp⟩
  rw [h (key x)] at this
  exact (List.mem_filter.1 this).1
theorem same.perm_len {a b : List Int} (h : same key a b) : a.length = b.length := by
  induction a generalizing b with
  | nil =>
    cases b with
    | nil => rfl
    | cons y t => exact absurd (h.symm.mem (List.mem_cons_self ..)) (by simp)
  | cons x t ih =>
    have hx : x ∈ b := h.mem (List.mem_cons_self ..)
    -- the first x of its key in b
    have hf := h (key x)
    rw [List.filter_cons_of_pos (by simp)] at hf
    have key_split : ∀ (c : Int) (b : List Int) (s : List Int) (x : Int), key x = c → x :: s = b.filter (fun y => key y == c) → ∃ p q, b = p ++ x :: q ∧ (∀ y ∈ p, key y ≠ c) ∧ s = q.filter (fun y => key y == c) := by
      intro c b
      induction b with
      | nil => intro s x _ h; cases h
      | cons y t ih =>
        intro s x hxc h
        by_cases hy : key y = c
        · rw [List.filter_cons_of_pos (by simp [hy])] at h
          injection h with h1 h2
          exact ⟨[], t, by rw [h1]; rfl, by simp, h2⟩
        · rw [List.filter_cons_of_neg (by simp [hy])] at h
          obtain ⟨p, q, h1, h2, h3⟩ := ih s x hxc h
          exact ⟨y :: p, q, by rw [h1]; rfl, by
            intro z hz
            rcases List.mem_cons.1 hz with rfl | hz
            · exact hy
            · exact h2 z hz, h3⟩
    obtain ⟨p, q, hb, hp, hs⟩ := key_split (key x) b _ x rfl hf
    subst hb
    have h2 : same key t (p ++ q) := by
      intro c
      by_cases hc : key x = c
      · subst hc
        rw [hs, List.filter_append]
        have : p.filter (fun y => key y == key x) = [] := List.filter_eq_nil_iff.2 (fun y hy => by simpa using hp y hy)
        rw [this, List.nil_append]
      · have := h c
        rw [List.filter_cons_of_neg (by simpa using hc), List.filter_append, List.filter_cons_of_neg (by simpa using hc)] at this
        rw [this, List.filter_append]
    have := ih h2
    rw [List.length_cons, this, List.length_append, List.length_append, List.length_cons]
    omega
theorem swap {a b : List Int} (h : ∀ x ∈ a, ∀ y ∈ b, key x ≠ key y) : same key (a ++ b) (b ++ a) := by
  intro c
  rw [List.filter_append, List.filter_append]
  by_cases hc : ∃ x ∈ a, key x = c
  · obtain ⟨x, hx, rfl⟩ := hc
    have : b.filter (fun y => key y == key x) = [] := List.filter_eq_nil_iff.2 (fun y hy => by simpa using fun e => h x hx y hy e.symm)
    rw [this, List.append_nil, List.nil_append]
  · have : a.filter (fun y => key y == c) = [] := List.filter_eq_nil_iff.2 (fun y hy => by simpa using fun e => hc ⟨y, hy, e⟩)
    rw [this, List.append_nil, List.nil_append]
theorem srt.left {a b : List Int} (h : srt key (a ++ b)) : srt key a := (List.pairwise_append.1 h).1
theorem srt.right {a b : List Int} (h : srt key (a ++ b)) : srt key b := (List.pairwise_append.1 h).2.1
theorem srt.cross {a b : List Int} (h : srt key (a ++ b)) : ∀ x ∈ a, ∀ y ∈ b, key x ≤ key y := (List.pairwise_append.1 h).2.2
theorem srt.join {a b : List Int} (h1 : srt key a) (h2 : srt key b) (h : ∀ x ∈ a, ∀ y ∈ b, key x ≤ key y) : srt key (a ++ b) := List.pairwise_append.2 ⟨h1, h2, h⟩
theorem srt.le_last {a : List Int} (h : srt key a) {z : Int} (hz : a.getLast? = some z) : ∀ x ∈ a, key x ≤ key z := by
  intro x hx
  obtain ⟨b, rfl⟩ : ∃ b, a = b ++ [z] := by
    rw [List.getLast?_eq_some_iff] at hz
    exact hz
  rcases List.mem_append.1 hx with hx | hx
  · exact h.cross x hx z (by simp)
  · rw [List.mem_singleton.1 hx]; exact Int.le_refl _
theorem srt.head_le {a : List Int} (h : srt key a) {z : Int} (hz : a.head? = some z) : ∀ x ∈ a, key z ≤ key x := by
  cases a with
  | nil => cases hz
  | cons y t =>
    injection hz with hz
    subst hz
    intro x hx
    rcases List.mem_cons.1 hx with rfl | hx
    · exact Int.le_refl _
    · exact (List.pairwise_cons.1 h).1 x hx
theorem parts {x1 x2 y1 y2 : List Int} (hx : srt key (x1 ++ x2)) (hy : srt key (y1 ++ y2)) (h1 : ∀ p q, x1.getLast? = some p → y2.head? = some q → key p ≤ key q) (h2 : ∀ p q, y1.getLast? = some p → x2.head? = some q → key p < key q) :
    (∀ a, a ∈ x1 ∨ a ∈ y1 → ∀ b, b ∈ x2 ∨ b ∈ y2 → key a ≤ key b) ∧ (∀ a ∈ y1, ∀ b ∈ x2, key a < key b) := by
  have last : ∀ {l : List Int} {a : Int}, a ∈ l → ∃ p, l.getLast? = some p := by
    intro l a ha
    cases h : l.getLast? with
    | none => rw [List.getLast?_eq_none_iff] at h; subst h; cases ha
    | some p => exact ⟨p, rfl⟩
  have first : ∀ {l : List Int} {a : Int}, a ∈ l → ∃ p, l.head? = some p := by
    intro l a ha
    cases l with
    | nil => cases ha
    | cons y t => exact ⟨y, rfl⟩
  have lt : ∀ a ∈ y1, ∀ b ∈ x2, key a < key b := by
    intro a ha b hb
    obtain ⟨p, hp⟩ := last ha
    obtain ⟨q, hq⟩ := first hb
    have := h2 p q hp hq
    have := hy.left.le_last hp a ha
    have := hx.right.head_le hq b hb
    omega
  refine ⟨?_, lt⟩
  rintro a (ha | ha) b (hb | hb)
  · exact hx.cross a ha b hb
  · obtain ⟨p, hp⟩ := last ha
    obtain ⟨q, hq⟩ := first hb
    have := h1 p q hp hq
    have := hx.left.le_last hp a ha
    have := hy.right.head_le hq b hb
    omega
  · exact Int.le_of_lt (lt a ha b hb)
  · exact hy.cross a ha b hb
theorem merged {x1 x2 y1 y2 u v : List Int} (hx : srt key (x1 ++ x2)) (hy : srt key (y1 ++ y2)) (h1 : ∀ p q, x1.getLast? = some p → y2.head? = some q → key p ≤ key q) (h2 : ∀ p q, y1.getLast? = some p → x2.head? = some q → key p < key q)
    (hu : srt key u) (hu2 : same key (x1 ++ y1) u) (hv : srt key v) (hv2 : same key (x2 ++ y2) v) : srt key (u ++ v) ∧ same key ((x1 ++ x2) ++ (y1 ++ y2)) (u ++ v) := by
  obtain ⟨p1, p2⟩ := parts hx hy h1 h2
  constructor
  · refine hu.join hv (fun a ha b hb => p1 a ?_ b ?_)
    · rcases List.mem_append.1 (hu2.symm.mem ha) with h | h
      · exact .inl h
      · exact .inr h
    · rcases List.mem_append.1 (hv2.symm.mem hb) with h | h
      · exact .inl h
      · exact .inr h
  · have e : same key ((x1 ++ x2) ++ (y1 ++ y2)) ((x1 ++ y1) ++ (x2 ++ y2)) := by
      have := swap (key := key) (a := x2) (b := y1) (fun a ha b hb e => by have := p2 b hb a ha; omega)
      have := (same.append (same.refl x1) (same.append this (same.refl y2)) : same key (x1 ++ ((x2 ++ y1) ++ y2)) (x1 ++ ((y1 ++ x2) ++ y2)))
      simpa [List.append_assoc] using this
    exact e.trans (hu2.append hv2)
end
end Go.Proofs.YtiabgmddnddeiaaDoorSrt
