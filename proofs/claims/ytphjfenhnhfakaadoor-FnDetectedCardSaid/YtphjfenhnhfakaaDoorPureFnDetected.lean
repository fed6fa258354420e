/- The law FnDetected in plain Lean: a drawn text behind the mark U+FEFF, in each form, is detected, if it does not begin with U+0; at every input. -/
import Derived.Test.YtphjfenhnhfakaaDoorQFnDetectedx9
namespace Go.Proofs.YtphjfenhnhfakaaDoor.Pure
open Go.RowKit Go.Proofs.YtphjfenhnhfakaaDoor.QFnDetected Go.Proofs.YtphjfenhnhfakaaDoorW.PrintWords Go.Proofs.YtphjfenhnhfakaaDoorW.PrintLast

theorem unit_bytes (n : Int) (b : Bool) (p : Int) : ∀ x ∈ YtphjfenhnhfakaaDoorPts.unit n b p, 0 ≤ x ∧ x < 256 := by
  unfold YtphjfenhnhfakaaDoorPts.unit
  intro x hx
  repeat' split at hx
  all_goals simp only [List.mem_cons, List.mem_nil_iff, or_false] at hx
  all_goals omega
theorem encF_bytes (form p : Int) : ∀ x ∈ YtphjfenhnhfakaaDoorPts.encF form p, 0 ≤ x ∧ x < 256 := by
  unfold YtphjfenhnhfakaaDoorPts.encF
  intro x hx
  split at hx
  · exact YtphjfenhnhfakaaDoorPts.enc_bytes p x hx
  · split at hx
    · exact unit_bytes _ _ _ x hx
    · split at hx
      · exact unit_bytes _ _ _ x hx
      · rcases List.mem_append.1 hx with h | h
        · exact unit_bytes _ _ _ x h
        · exact unit_bytes _ _ _ x h
theorem encsF_bytes (form : Int) (l : List Int) : ∀ x ∈ YtphjfenhnhfakaaDoorPts.encsF form l, 0 ≤ x ∧ x < 256 := by
  intro x hx
  obtain ⟨p, _, h⟩ := List.mem_flatMap.1 hx
  exact encF_bytes form p x h
theorem data_bytes (s p : ByteArray) : s.data.toList = p.data.toList ↔ bytesOf s = bytesOf p := by
  constructor
  · intro h; unfold bytesOf; rw [h]
  · intro h
    have := YtphjfenhnhfakaaDoorPts.bytesOf_inj h
    rw [this]
theorem hp (s p : ByteArray) : strings_HasPrefix.f s p = some (decide ((bytesOf s).take p.size = bytesOf p)) := by
  unfold strings_HasPrefix.f stringslite_HasPrefix.f
  by_cases h : (s.size : Int) ≥ (p.size : Int)
  · rw [if_pos h, if_pos (by omega), if_pos h]
    simp only [Option.bind_some, Int.toNat_natCast]
    congr 1
    rw [Lib.toList_data, Lib.toList_data]
    have e : bytesOf (s.extract 0 p.size) = (bytesOf s).take p.size := by
      unfold bytesOf
      rw [← List.map_take]
      congr 1
      simp
    have e2 := data_bytes (s.extract 0 p.size) p
    rw [e] at e2
    by_cases c : (s.extract 0 p.size).data.toList = p.data.toList
    · rw [decide_eq_true (e2.1 c), c]; simp
    · rw [decide_eq_false (fun z => c (e2.2 z))]; simpa using c
  · rw [if_neg h]
    simp only [Option.bind_some]
    rw [decide_eq_false]
    intro c
    have := congrArg List.length c
    rw [List.length_take, bytesOf_length, bytesOf_length] at this
    omega

theorem pre (L : List Int) (hL : ∀ x ∈ L, 0 ≤ x ∧ x < 256) (p : ByteArray) (q : List Int) (hq : bytesOf p = q) (n : Nat) (hn : p.size = n) :
    strings_HasPrefix.f (strOfNums L) p = some (decide (L.take n = q)) := by
  rw [hp, YtphjfenhnhfakaaDoorPts.bytesOf_strOfNums hL, hq, hn]

theorem detect (form : Int) (h1 : 1 ≤ form) (h2 : form ≤ 5) (l : List Int) (hl : l.length ≤ 2000) (hp : ∀ p ∈ l, YtphjfenhnhfakaaDoorPts.isP p) (h0 : ∀ p, l.head? = some p → p ≠ 0) (k : Nat) :
    impl_Detect.f (k + 9) (strOfNums (YtphjfenhnhfakaaDoorPts.encsF form (65279 :: l))) = some form := by
  have hb := encsF_bytes form (65279 :: l)
  have hlen := YtphjfenhnhfakaaDoorPts.encsF_length form (65279 :: l)
  simp only [List.length_cons] at hlen
  obtain ⟨L, hL⟩ : ∃ L, YtphjfenhnhfakaaDoorPts.encsF form (65279 :: l) = L := ⟨_, rfl⟩
  have hc : L = YtphjfenhnhfakaaDoorPts.encF form 65279 ++ YtphjfenhnhfakaaDoorPts.encsF form l := by rw [← hL]; simp [YtphjfenhnhfakaaDoorPts.encsF]
  rw [hL] at hb hlen ⊢
  unfold impl_Detect.f impl_long.f
  simp only [Option.bind_some]
  rw [if_neg (by rw [decide_eq_true_eq, strOfNums_size]; omega)]
  have w1 : wrap64 1 = 1 := by unfold wrap64; omega
  have w2 : wrap64 2 = 2 := by unfold wrap64; omega
  have w3 : wrap64 3 = 3 := by unfold wrap64; omega
  have w4 : wrap64 4 = 4 := by unfold wrap64; omega
  have w5 : wrap64 5 = 5 := by unfold wrap64; omega
  have p1 := pre L hb (⟨#[239, 187, 191]⟩ : ByteArray) [239, 187, 191] rfl 3 rfl
  have p2 := pre L hb (⟨#[255, 254, 0, 0]⟩ : ByteArray) [255, 254, 0, 0] rfl 4 rfl
  have p3 := pre L hb (⟨#[0, 0, 254, 255]⟩ : ByteArray) [0, 0, 254, 255] rfl 4 rfl
  have p4 := pre L hb (⟨#[254, 255]⟩ : ByteArray) [254, 255] rfl 2 rfl
  have p5 := pre L hb (⟨#[255, 254]⟩ : ByteArray) [255, 254] rfl 2 rfl
  have gen : ∀ b1 b2 b3 b4 b5 : Bool,
      strings_HasPrefix.f (strOfNums L) (⟨#[239, 187, 191]⟩ : ByteArray) = some b1 → strings_HasPrefix.f (strOfNums L) (⟨#[255, 254, 0, 0]⟩ : ByteArray) = some b2 →
      strings_HasPrefix.f (strOfNums L) (⟨#[0, 0, 254, 255]⟩ : ByteArray) = some b3 → strings_HasPrefix.f (strOfNums L) (⟨#[254, 255]⟩ : ByteArray) = some b4 →
      strings_HasPrefix.f (strOfNums L) (⟨#[255, 254]⟩ : ByteArray) = some b5 → (b1 || b2 || b3 || b4 || b5) = true →
      impl_Detect.l0 (k + 9) (strOfNums L) [(⟨(⟨#[239, 187, 191]⟩ : ByteArray), 1⟩ : S50), (⟨(⟨#[255, 254, 0, 0]⟩ : ByteArray), 5⟩ : S50), (⟨(⟨#[0, 0, 254, 255]⟩ : ByteArray), 4⟩ : S50), (⟨(⟨#[254, 255]⟩ : ByteArray), 2⟩ : S50), (⟨(⟨#[255, 254]⟩ : ByteArray), 3⟩ : S50)] 5 0
        = some (if b1 = true then 1 else if b2 = true then 5 else if b3 = true then 4 else if b4 = true then 2 else 3) := by
    intro b1 b2 b3 b4 b5 q1 q2 q3 q4 q5 hor
    simp only [impl_Detect.l0, List.length_cons, List.length_nil, rd_T50]
    simp [q1, q2, q3, q4, q5, w1, w2, w3, w4]
    cases b1 <;> cases b2 <;> cases b3 <;> cases b4 <;> cases b5 <;> simp at hor ⊢
  simp only [List.length_cons, List.length_nil]
  obtain ⟨R, hR⟩ : ∃ R, YtphjfenhnhfakaaDoorPts.encsF form l = R := ⟨_, rfl⟩
  have n3 : form = 3 → R.take 2 ≠ [0, 0] := by
    intro e
    subst e
    rw [← hR]
    cases l with
    | nil => simp [YtphjfenhnhfakaaDoorPts.encsF]
    | cons p l' =>
      have e0 := h0 p rfl
      have ep := hp p (by simp)
      unfold YtphjfenhnhfakaaDoorPts.isP at ep
      have ec : YtphjfenhnhfakaaDoorPts.encsF 3 (p :: l') = YtphjfenhnhfakaaDoorPts.encF 3 p ++ YtphjfenhnhfakaaDoorPts.encsF 3 l' := by simp [YtphjfenhnhfakaaDoorPts.encsF]
      rw [ec]
      unfold YtphjfenhnhfakaaDoorPts.encF YtphjfenhnhfakaaDoorPts.unit
      rw [if_neg (by decide), if_neg (by decide)]
      by_cases c : p < 65536
      · rw [if_pos c]
        simp
        omega
      · rw [if_neg c]
        simp
        omega
  rw [hR] at hc
  clear hR hb hlen hL
  have f5 : form = 1 ∨ form = 2 ∨ form = 3 ∨ form = 4 ∨ form = 5 := by omega
  refine (gen _ _ _ _ _ p1 p2 p3 p4 p5 ?_).trans ?_
  all_goals
    clear gen p1 p2 p3 p4 p5 w1 w2 w3 w4 w5
    rcases f5 with rfl | rfl | rfl | rfl | rfl
  · rw [hc, show YtphjfenhnhfakaaDoorPts.encF 1 65279 = [239, 187, 191] from by decide]; simp
  · rw [hc, show YtphjfenhnhfakaaDoorPts.encF 2 65279 = [254, 255] from by decide]; simp
  · rw [hc, show YtphjfenhnhfakaaDoorPts.encF 3 65279 = [255, 254] from by decide]; simp
  · rw [hc, show YtphjfenhnhfakaaDoorPts.encF 4 65279 = [0, 0, 254, 255] from by decide]; simp
  · rw [hc, show YtphjfenhnhfakaaDoorPts.encF 5 65279 = [255, 254, 0, 0] from by decide]; simp
  · rw [hc, show YtphjfenhnhfakaaDoorPts.encF 1 65279 = [239, 187, 191] from by decide]; simp
  · rw [hc, show YtphjfenhnhfakaaDoorPts.encF 2 65279 = [254, 255] from by decide]; simp
  · have := n3 rfl
    rw [hc, show YtphjfenhnhfakaaDoorPts.encF 3 65279 = [255, 254] from by decide]; simp [this]
  · rw [hc, show YtphjfenhnhfakaaDoorPts.encF 4 65279 = [0, 0, 254, 255] from by decide]; simp
  · rw [hc, show YtphjfenhnhfakaaDoorPts.encF 5 65279 = [255, 254, 0, 0] from by decide]; simp

theorem loop (t : ByteArray) (ht : t.size ≤ 1000) (h0 : ∀ p, (YtphjfenhnhfakaaDoorPts.pts (bytesOf t)).head? = some p → p ≠ 0) (d : Nat) : ∀ (k : Nat) (form : Int), 1 ≤ form → form + d = 6 → d + 12 < k →
    laws_FnDetected.l0 k t form = some true := by
  induction d with
  | zero =>
    intro k form h1 h2 hk
    obtain ⟨k, rfl⟩ : ∃ m, k = m + 1 := ⟨k - 1, by omega⟩
    simp only [laws_FnDetected.l0]
    rw [if_neg (by omega)]
  | succ d ih =>
    intro k form h1 h2 hk
    obtain ⟨k, rfl⟩ : ∃ m, k = m + 9 + 1 := ⟨k - 10, by omega⟩
    simp only [laws_FnDetected.l0]
    rw [if_pos (by omega), if_pos (by omega)]
    have hsz : ((⟨#[239, 187, 191]⟩ : ByteArray) ++ t).size = 3 + t.size := by rw [ByteArray.size_append]; rfl
    have hby : bytesOf ((⟨#[239, 187, 191]⟩ : ByteArray) ++ t) = YtphjfenhnhfakaaDoorPts.enc 65279 ++ bytesOf t := by
      unfold bytesOf
      simp
      rfl
    have hpts : YtphjfenhnhfakaaDoorPts.pts (bytesOf ((⟨#[239, 187, 191]⟩ : ByteArray) ++ t)) = 65279 :: YtphjfenhnhfakaaDoorPts.pts (bytesOf t) := by
      rw [hby, YtphjfenhnhfakaaDoorPts.pts_cons (by intro h; have h2 := (List.append_eq_nil_iff.1 h).1; have := YtphjfenhnhfakaaDoorPts.enc_length 65279; rw [h2] at this; simp at this), YtphjfenhnhfakaaDoorPts.dec_enc]
      simp only [List.drop_left]
      rfl
    have hpl := YtphjfenhnhfakaaDoorPts.pts_length _ (bytesOf t) (Nat.le_refl _)
    rw [bytesOf_length] at hpl
    have hpp := YtphjfenhnhfakaaDoorPts.pts_isP _ (bytesOf t) (Nat.le_refl _)
    have hel := YtphjfenhnhfakaaDoorPts.encsF_length form (65279 :: YtphjfenhnhfakaaDoorPts.pts (bytesOf t))
    rw [List.length_cons] at hel
    have he : spec_Encode.f (k + 9) form ((⟨#[239, 187, 191]⟩ : ByteArray) ++ t) = some (strOfNums (YtphjfenhnhfakaaDoorPts.encsF form (65279 :: YtphjfenhnhfakaaDoorPts.pts (bytesOf t)))) := by
      unfold spec_Encode.f spec_l02IsForm.f
      rw [if_neg (by omega), if_pos h1, decide_eq_true (by omega)]
      simp only [Option.bind_some, Bool.not_true, spec_Encode.j0, Bool.false_eq_true, if_false]
      unfold W_spec_l01Points.f W_spec_l02Encode.f
      rw [if_pos (by omega), hpts]
      simp only [Option.bind_some]
      rw [if_pos ⟨⟨h1, by omega⟩, by rw [List.length_cons]; omega, by
        intro p hp
        rcases List.mem_cons.1 hp with rfl | hp
        · unfold YtphjfenhnhfakaaDoorPts.isP; omega
        · exact hpp p hp⟩]
      simp only [Option.bind_some]
      unfold spec_l01Small.f
      rw [if_neg (by rw [strOfNums_size]; omega)]
      rfl
    rw [he]
    simp only [Option.bind_some]
    rw [detect form h1 (by omega) _ (by omega) hpp h0 k]
    simp only [Option.bind_some, if_true]
    have hw : wrap64 (form + 1) = form + 1 := by unfold wrap64; omega
    rw [hw]
    exact ih (k + 9) (form + 1) (by omega) (by omega) (by omega)

theorem FnDetected : laws_FnDetected.Pure := by
  intro l hm hl hb
  refine ⟨20, ?_⟩
  unfold laws_FnDetected.f
  by_cases c : (l.length : Int) > 1048576
  · rw [if_pos c]
  · rw [if_neg c]
    obtain ⟨t, ht, hts⟩ := W_spec_DrawPointsOf.has (l := l) (by omega)
    rw [ht]
    simp only [Option.bind_some]
    by_cases c1 : (t.size : Int) > 1000
    · rw [if_pos c1]; rfl
    · rw [if_neg c1]
      by_cases c2 : t.toList = ([] : List UInt8)
      · rw [if_pos c2]
        simp only [laws_FnDetected.j0, Bool.false_eq_true, if_false]
        refine loop t (by omega) ?_ 5 19 1 (by omega) (by omega) (by omega)
        intro p hp
        rw [Lib.toList_data] at c2
        have : bytesOf t = [] := by unfold bytesOf; rw [c2]; rfl
        rw [this, YtphjfenhnhfakaaDoorPts.pts_nil] at hp
        cases hp
      · rw [if_neg c2]
        have hne : bytesOf t ≠ [] := by
          intro h
          apply c2
          rw [Lib.toList_data]
          unfold bytesOf at h
          exact List.map_eq_nil_iff.1 h
        have hpos : 0 < t.size := by rw [← bytesOf_length]; exact List.length_pos_iff.2 hne
        rw [if_pos (by omega)]
        by_cases c3 : bt t 0 = 0
        · rw [show (bt t 0 == 0) = true from by simp [c3]]; rfl
        · rw [show (bt t 0 == 0) = false from by simp [c3]]
          simp only [laws_FnDetected.j0, Bool.false_eq_true, if_false]
          refine loop t (by omega) ?_ 5 19 1 (by omega) (by omega) (by omega)
          intro p hp
          rw [YtphjfenhnhfakaaDoorPts.pts_cons hne] at hp
          simp only [List.head?_cons, Option.some.injEq] at hp
          rw [← hp]
          have hr := bt_range t 0
          have e0 : (bytesOf t).getD 0 0 = bt t 0 := by rw [← rd_bytesOf]; rfl
          unfold YtphjfenhnhfakaaDoorPts.dec
          rw [e0]
          intro hz
          by_cases c4 : bt t 0 < 128
          · have : Lib.decodeN (bytesOf t).length (bt t 0).toNat ((bytesOf t).getD 1 0).toNat ((bytesOf t).getD 2 0).toNat ((bytesOf t).getD 3 0).toNat = ((bt t 0).toNat, 1) := by
              unfold Lib.decodeN; rw [if_pos (by omega)]
            rw [this] at hz
            simp only [] at hz
            omega
          · have : 128 ≤ (Lib.decodeN (bytesOf t).length (bt t 0).toNat ((bytesOf t).getD 1 0).toNat ((bytesOf t).getD 2 0).toNat ((bytesOf t).getD 3 0).toNat).1 := by
              unfold Lib.decodeN
              rw [if_neg (by omega)]
              repeat' split
              all_goals (simp only []; omega)
            omega

end Go.Proofs.YtphjfenhnhfakaaDoor.Pure
