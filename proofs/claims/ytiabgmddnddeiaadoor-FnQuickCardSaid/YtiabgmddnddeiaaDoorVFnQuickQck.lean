/- A plain text of the law FnQuick, what the law uses of it, taken out by a program of this session's (wip/tool/prune.py). -/
import Derived.Test.YtiabgmddnddeiaaDoorVFnQuickNst
import Derived.Test.YtiabgmddnddeiaaDoorVFnQuickDec
set_option linter.unusedVariables false
set_option linter.unusedSimpArgs false
namespace Go.Proofs.YtiabgmddnddeiaaDoorQck
open Go.RowKit YtiabgmddnddeiaaDoorNrm YtiabgmddnddeiaaDoorPts YtiabgmddnddeiaaDoorNst YtiabgmddnddeiaaDoorDec Go.Proofs.YtiabgmddnddeiaaDoorW.PrintWords
def qc (f : Int) : List (Int × Bool) → Int → Int → Int
  | [], _, out => out
  | a :: t, last, out => if a.2 = true ∨ (cls a.1 ≠ 0 ∧ cls a.1 < last) ∨ nf f [a.1] ≠ [a.1] then 2 else qc f t (cls a.1) (if f % 2 = 0 ∧ second a.1 then 3 else out)
def good (f : Int) : List (Int × Bool) → Int → Prop
  | [], _ => True
  | a :: t, last => ¬ (a.2 = true ∨ (cls a.1 ≠ 0 ∧ cls a.1 < last) ∨ nf f [a.1] ≠ [a.1]) ∧ good f t (cls a.1)
theorem qc_good (f : Int) : ∀ (l : List (Int × Bool)) (last out : Int), (out = 1 ∨ out = 3) → (qc f l last out = 2 ↔ ¬ good f l last) ∧ (qc f l last out = 1 → out = 1 ∧ ∀ a ∈ l, ¬ (f % 2 = 0 ∧ second a.1))
  | [], last, out, ho => ⟨⟨(fun h => by unfold qc at h; omega), fun h => absurd trivial h⟩, fun h => ⟨h, (fun a ha => by cases ha)⟩⟩
  | a :: t, last, out, ho => by
    have ih := qc_good f t (cls a.1) (if f % 2 = 0 ∧ second a.1 then 3 else out) (by split; exact .inr rfl; exact ho)
    unfold qc good
    by_cases c : a.2 = true ∨ (cls a.1 ≠ 0 ∧ cls a.1 < last) ∨ nf f [a.1] ≠ [a.1]
    · rw [if_pos c]
      exact ⟨⟨fun _ h => h.1 c, fun _ => rfl⟩, fun h => by omega⟩
    · rw [if_neg c]
      refine ⟨⟨fun h hg => ih.1.1 h hg.2, fun h => ih.1.2 (fun hg => h ⟨c, hg⟩)⟩, fun h => ?_⟩
      obtain ⟨h1, h2⟩ := ih.2 h
      by_cases d : f % 2 = 0 ∧ second a.1
      · rw [if_pos d] at h1; omega
      · rw [if_neg d] at h1
        refine ⟨h1, fun b hb => ?_⟩
        rcases List.mem_cons.1 hb with e | e
        · rw [e]; exact d
        · exact h2 b e
theorem good_iff (f : Int) : ∀ (l : List (Int × Bool)) (last : Int), good f l last ↔ ((∀ a ∈ l, a.2 = false) ∧ (∀ a ∈ l, nf f [a.1] = [a.1]) ∧ inord (l.map (·.1)) ∧ (∀ a ∈ l.head?, cls a.1 = 0 ∨ last ≤ cls a.1))
  | [], last => ⟨fun _ => ⟨(fun a ha => by cases ha), (fun a ha => by cases ha), trivial, (fun a ha => by cases ha)⟩, fun _ => trivial⟩
  | a :: t, last => by
    have ih := good_iff f t (cls a.1)
    have hin : inord ((a :: t).map (·.1)) ↔ (inord (t.map (·.1)) ∧ ∀ b ∈ t.head?, cls b.1 = 0 ∨ cls a.1 ≤ cls b.1) := by
      cases t with
      | nil => exact ⟨fun _ => ⟨trivial, (fun b hb => by cases hb)⟩, fun _ => trivial⟩
      | cons b t => exact ⟨fun h => ⟨h.2, fun c hc => by cases hc; exact h.1⟩, fun h => ⟨h.2 b rfl, h.1⟩⟩
    unfold good
    rw [ih, hin]
    constructor
    · rintro ⟨h0, h1, h2, h3, h4⟩
      refine ⟨fun b hb => ?_, fun b hb => ?_, ⟨h3, h4⟩, fun b hb => ?_⟩
      · rcases List.mem_cons.1 hb with e | e
        · rw [e]; exact Bool.eq_false_iff.2 (fun z => h0 (.inl z))
        · exact h1 b e
      · rcases List.mem_cons.1 hb with e | e
        · rw [e]; exact Classical.byContradiction (fun z => h0 (.inr (.inr z)))
        · exact h2 b e
      · cases hb
        by_cases z : cls a.1 = 0
        · exact .inl z
        · by_cases z2 : cls a.1 < last
          · exact absurd (.inr (.inl ⟨z, z2⟩)) h0
          · exact .inr (by omega)
    · rintro ⟨h1, h2, ⟨h3, h4⟩, h5⟩
      refine ⟨?_, fun b hb => h1 b (List.mem_cons_of_mem _ hb), fun b hb => h2 b (List.mem_cons_of_mem _ hb), h3, h4⟩
      rintro (z | z | z)
      · rw [h1 a List.mem_cons_self] at z; cases z
      · have := h5 a rfl; omega
      · exact z (h2 a List.mem_cons_self)
theorem dec_one {l : List Int} (hne : l ≠ []) (hb : ∀ b ∈ l, 0 ≤ b ∧ b < 256) : ((YtiabgmddnddeiaaDoorPts.dec l).2 ≠ 1 ∨ l.getD 0 0 < 128) ↔ ¬ ((YtiabgmddnddeiaaDoorPts.dec l).1 = 65533 ∧ (YtiabgmddnddeiaaDoorPts.dec l).2 = 1) := by
  obtain ⟨c0, e0, l0⟩ := YtiabgmddnddeiaaDoorDec.getD_nat hb 0
  obtain ⟨c1, e1, l1⟩ := YtiabgmddnddeiaaDoorDec.getD_nat hb 1
  obtain ⟨c2, e2, l2⟩ := YtiabgmddnddeiaaDoorDec.getD_nat hb 2
  obtain ⟨c3, e3, l3⟩ := YtiabgmddnddeiaaDoorDec.getD_nat hb 3
  have hl := List.length_pos_iff.2 hne
  unfold YtiabgmddnddeiaaDoorPts.dec
  rw [e0, e1, e2, e3]
  simp only [Int.toNat_natCast]
  by_cases a0 : c0 < 128
  · have e : Lib.decodeN l.length c0 c1 c2 c3 = (c0, 1) := by unfold Lib.decodeN; simp [a0]
    rw [e]; simp only []; omega
  by_cases a1 : c0 < 194 ∨ 245 ≤ c0
  · rw [decN_not _ _ _ _ _ l0 (by omega) a1]; simp; omega
  by_cases a2 : c0 < 224
  · rw [decN_two _ _ _ _ _ l1 (by omega) a2]; split <;> simp <;> omega
  by_cases a3 : c0 < 240
  · rw [decN_three _ _ _ _ _ l1 l2 (by omega) a3]; split <;> simp <;> omega
  · rw [decN_four _ _ _ _ _ l1 l2 l3 (by omega) (by omega)]; split <;> simp <;> omega
def rp (t : ByteArray) : List (Int × Bool) := (reads (bytesOf t)).map (fun x => (x.1, x.2.2.2))
theorem rp_P (t : ByteArray) : (rp t).map (·.1) = P t := by unfold rp P; rw [List.map_map, ← reads_pts]; rfl
theorem whole : ∀ (n : Nat) (l : List Int) (i : Int), l.length ≤ n → (∀ b ∈ l, 0 ≤ b ∧ b < 256) → ((∀ x ∈ readsAt l i, x.2.2.2 = false) ↔ encs (pts l) = l)
  | 0, l, i, hn, hb => by
    obtain rfl : l = [] := List.eq_nil_of_length_eq_zero (by omega)
    exact ⟨fun _ => rfl, (fun _ x hx => by cases hx)⟩
  | n + 1, l, i, hn, hb => by
    cases l with
    | nil => exact ⟨fun _ => rfl, (fun _ x hx => by cases hx)⟩
    | cons a t =>
      have hd := dec_bound (l := a :: t) (by simp)
      have ih := whole n ((a :: t).drop (dec (a :: t)).2) (i + (dec (a :: t)).2) (by rw [List.length_drop]; simp only [List.length_cons] at *; omega) (fun b h => hb b (List.mem_of_mem_drop h))
      rw [readsAt_cons (by simp), pts_cons (by simp), encs_cons]
      constructor
      · intro h
        have h0 := h _ List.mem_cons_self
        have h1 := ih.1 (fun x hx => h x (List.mem_cons_of_mem _ hx))
        have hv := of_decide_eq_false h0
        rw [h1, ← YtiabgmddnddeiaaDoorVal.head_enc (by simp) hb hv, List.take_append_drop]
      · intro h
        have hdv : ¬ ((dec (a :: t)).1 = 65533 ∧ (dec (a :: t)).2 = 1) := by
          rintro ⟨z1, z2⟩
          have h3 : (enc (dec (a :: t)).1).length = 3 := by rw [z1]; rfl
          have h4 := dec_enc (dec (a :: t)).1 (encs (pts ((a :: t).drop (dec (a :: t)).2)))
          rw [h] at h4
          rw [h4] at z2
          simp only at z2
          rw [z1] at h3
          rw [z1] at z2
          omega
        have he := YtiabgmddnddeiaaDoorVal.head_enc (by simp) hb hdv
        have h2 : encs (pts ((a :: t).drop (dec (a :: t)).2)) = (a :: t).drop (dec (a :: t)).2 := by
          have e := h
          rw [← he] at e
          have e2 := List.take_append_drop (dec (a :: t)).2 (a :: t)
          exact List.append_cancel_left (e.trans e2.symm)
        have h1 := ih.2 h2
        intro x hx
        rcases List.mem_cons.1 hx with e | e
        · rw [e]; exact decide_eq_false hdv
        · exact h1 x e
theorem rp_whole (t : ByteArray) : (∀ a ∈ rp t, a.2 = false) ↔ encs (P t) = bytesOf t := by
  unfold rp P
  rw [← whole _ (bytesOf t) 0 (Nat.le_refl _) (bytes_range t)]
  constructor
  · intro h x hx; exact h (x.1, x.2.2.2) (List.mem_map.2 ⟨x, hx, rfl⟩)
  · intro h a ha
    obtain ⟨x, hx, rfl⟩ := List.mem_map.1 ha
    exact h x hx
theorem N_is {f : Int} {t : ByteArray} : (N f t).toList = t.toList ↔ (encs (P t) = bytesOf t ∧ nf f (P t) = P t) := by
  constructor
  · intro h
    have e := toList_inj h
    have h1 : nf f (P t) = P t := by have := P_N f t; rw [e] at this; exact this.symm
    refine ⟨?_, h1⟩
    have h2 : bytesOf (N f t) = encs (nf f (P t)) := by unfold N; rw [bytesOf_strOfNums (encs_bytes _)]
    rw [e, h1] at h2
    exact h2.symm
  · rintro ⟨h1, h2⟩
    unfold N
    rw [h2, h1, strOfNums_bytesOf]
def QC (f : Int) (t : ByteArray) : Int := if (t.size : Int) > 65536 ∨ ok f = false then 0 else qc f (rp t) 0 1
theorem QC_yes {f : Int} {t : ByteArray} (h : QC f t = 1) : IsN f t = true := by
  unfold QC at h
  split at h
  · omega
  rename_i c
  have q := qc_good f (rp t) 0 1 (.inl rfl)
  have hg : good f (rp t) 0 := Classical.byContradiction (fun z => by have := q.1.2 z; omega)
  obtain ⟨g1, g2, g3, _⟩ := (good_iff f _ _).1 hg
  have h2 := (q.2 h).2
  have hf : 1 ≤ f ∧ f ≤ 4 := by
    cases e : ok f with
    | false => exact absurd (.inr e) c
    | true => exact of_decide_eq_true e
  unfold IsN
  rw [if_neg c]
  refine beq_iff_eq.2 (N_is.2 ⟨(rp_whole t).1 g1, ?_⟩)
  rw [← rp_P]
  refine nf_quick g3 (fun p hp => ?_) (fun c2 p hp => ?_)
  · obtain ⟨a, ha, rfl⟩ := List.mem_map.1 hp; exact g2 a ha
  · obtain ⟨a, ha, rfl⟩ := List.mem_map.1 hp
    exact fun z => h2 a ha ⟨by omega, z⟩
theorem QC_no {f : Int} {t : ByteArray} (h : QC f t = 2) : IsN f t = false := by
  unfold QC at h
  split at h
  · omega
  rename_i c
  have q := (qc_good f (rp t) 0 1 (.inl rfl)).1.1 h
  unfold IsN
  rw [if_neg c]
  rw [beq_eq_false_iff_ne]
  intro e
  obtain ⟨e1, e2⟩ := N_is.1 e
  refine q ((good_iff f _ _).2 ⟨(rp_whole t).2 e1, fun a ha => ?_, ?_, fun a _ => ?_⟩)
  · have : a.1 ∈ P t := by rw [← rp_P]; exact List.mem_map.2 ⟨a, ha, rfl⟩
    rw [← e2] at this
    exact nf_mem_one _ this
  · rw [rp_P, ← e2]; exact nf_inord _ _
  · have := cls_range a.1; omega
end Go.Proofs.YtiabgmddnddeiaaDoorQck
