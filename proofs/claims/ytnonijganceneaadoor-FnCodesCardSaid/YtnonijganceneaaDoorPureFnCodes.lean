/- The law FnCodes in plain Lean: a drawn text in each of the five forms, decoded, is the text, well written, without a broken piece; at every input. -/
import Derived.Test.YtnonijganceneaaDoorQFnCodesx15
set_option linter.unusedVariables false
set_option linter.unusedSimpArgs false
namespace Go.Proofs.YtnonijganceneaaDoor.Pure
open Go.RowKit Go.Proofs.YtnonijganceneaaDoor.QFnCodes Go.Proofs.YtnonijganceneaaDoorW.PrintWords Go.Proofs.YtnonijganceneaaDoorW.PrintLast

theorem Co.unit_bytes (n : Int) (b : Bool) (p : Int) : ∀ x ∈ YtnonijganceneaaDoorPts.unit n b p, 0 ≤ x ∧ x < 256 := by
  intro x hx
  unfold YtnonijganceneaaDoorPts.unit at hx
  split at hx <;> split at hx <;> simp only [List.mem_cons, List.not_mem_nil, or_false] at hx <;> omega
theorem Co.encF_bytes (form p : Int) : ∀ x ∈ YtnonijganceneaaDoorPts.encF form p, 0 ≤ x ∧ x < 256 := by
  intro x hx
  unfold YtnonijganceneaaDoorPts.encF at hx
  split at hx
  · exact YtnonijganceneaaDoorPts.enc_bytes p x hx
  · split at hx
    · exact Co.unit_bytes _ _ _ x hx
    · split at hx
      · exact Co.unit_bytes _ _ _ x hx
      · rcases List.mem_append.1 hx with h | h
        · exact Co.unit_bytes _ _ _ x h
        · exact Co.unit_bytes _ _ _ x h
theorem Co.encsF_bytes (form : Int) (l : List Int) : ∀ x ∈ YtnonijganceneaaDoorPts.encsF form l, 0 ≤ x ∧ x < 256 := by
  intro x hx
  unfold YtnonijganceneaaDoorPts.encsF at hx
  obtain ⟨p, _, h⟩ := List.mem_flatMap.1 hx
  exact Co.encF_bytes form p x h
theorem Co.cons (form p : Int) (l : List Int) : YtnonijganceneaaDoorPts.encsF form (p :: l) = YtnonijganceneaaDoorPts.encF form p ++ YtnonijganceneaaDoorPts.encsF form l := by simp [YtnonijganceneaaDoorPts.encsF]
theorem Co.unit2 (b : Bool) (q : Int) (t : List Int) (h0 : 0 ≤ q) (h1 : q < 65536) : YtnonijganceneaaDoorDec.unit2 b (YtnonijganceneaaDoorPts.unit 2 b q ++ t) = q := by
  cases b
  · show 256 * (q / 256 % 256) + q % 256 = q
    omega
  · show q % 256 + 256 * (q / 256 % 256) = q
    omega
theorem Co.unit4 (b : Bool) (q : Int) (t : List Int) (h0 : 0 ≤ q) (h1 : q ≤ 1114111) : YtnonijganceneaaDoorDec.unit4 b (YtnonijganceneaaDoorPts.unit 4 b q ++ t) = q := by
  cases b
  · show 16777216 * (q / 16777216 % 256) + 65536 * (q / 65536 % 256) + 256 * (q / 256 % 256) + q % 256 = q
    omega
  · show q % 256 + 256 * (q / 256 % 256) + 65536 * (q / 65536 % 256) + 16777216 * (q / 16777216 % 256) = q
    omega
theorem Co.len2 (b : Bool) (q : Int) : (YtnonijganceneaaDoorPts.unit 2 b q).length = 2 := by cases b <;> rfl
theorem Co.len4 (b : Bool) (q : Int) : (YtnonijganceneaaDoorPts.unit 4 b q).length = 4 := by cases b <;> rfl
theorem Co.piece (form : Int) (hf : 1 ≤ form ∧ form ≤ 5) (q : Int) (hq : YtnonijganceneaaDoorPts.isP q) (t : List Int) (ht : ∀ b ∈ t, 0 ≤ b ∧ b < 256) :
    YtnonijganceneaaDoorDec.pieceP form (YtnonijganceneaaDoorPts.encF form q ++ t) = (q, (YtnonijganceneaaDoorPts.encF form q).length, false, false) := by
  have hq0 := hq
  unfold YtnonijganceneaaDoorPts.isP at hq0
  unfold YtnonijganceneaaDoorDec.pieceP
  by_cases f1 : form = 1
  · rw [if_pos f1]
    have e : YtnonijganceneaaDoorPts.encF form q = YtnonijganceneaaDoorPts.enc q := by unfold YtnonijganceneaaDoorPts.encF; rw [if_pos f1]
    rw [e]
    have hl := YtnonijganceneaaDoorPts.enc_length q
    have hne : YtnonijganceneaaDoorPts.enc q ++ t ≠ [] := by
      intro h
      have := congrArg List.length h
      rw [List.length_append, List.length_nil] at this
      omega
    have hb : ∀ b ∈ YtnonijganceneaaDoorPts.enc q ++ t, 0 ≤ b ∧ b < 256 := by
      intro b h
      rcases List.mem_append.1 h with h | h
      · exact YtnonijganceneaaDoorPts.enc_bytes q b h
      · exact ht b h
    have hd := YtnonijganceneaaDoorPts.dec_enc q t
    rw [YtnonijganceneaaDoorPts.fix_of hq] at hd
    have hc := YtnonijganceneaaDoorDec.could_dec hne hb
    have hc2 : (YtnonijganceneaaDoorDec.could (YtnonijganceneaaDoorPts.enc q ++ t)).2 = true := by
      cases h : (YtnonijganceneaaDoorDec.could (YtnonijganceneaaDoorPts.enc q ++ t)).2 with
      | true => rfl
      | false =>
        have := (hc.2.2.2 h).1
        rw [hd] at this
        simp only [Prod.mk.injEq] at this
        rw [this.1] at this
        have h3 : (YtnonijganceneaaDoorPts.enc 65533).length = 3 := by decide
        omega
    have hp := YtnonijganceneaaDoorDec.could_pos hc2
    have h2 := (hc.2.2.1 hc2).1
    rw [hd] at h2
    unfold YtnonijganceneaaDoorDec.piece8
    rw [if_neg (by omega), if_pos hc2, hd, ← h2]
  · rw [if_neg f1]
    by_cases f4 : 4 ≤ form
    · rw [if_pos f4]
      have e : YtnonijganceneaaDoorPts.encF form q = YtnonijganceneaaDoorPts.unit 4 (decide (form = 5)) q := by unfold YtnonijganceneaaDoorPts.encF; rw [if_neg f1, if_pos f4]
      rw [e, Co.len4]
      unfold YtnonijganceneaaDoorDec.piece32
      rw [if_neg (by rw [List.length_append, Co.len4]; omega), Co.unit4 _ _ _ hq0.1 hq0.2.1, if_pos hq]
    · rw [if_neg f4]
      unfold YtnonijganceneaaDoorDec.piece16
      by_cases big : q < 65536
      · have e : YtnonijganceneaaDoorPts.encF form q = YtnonijganceneaaDoorPts.unit 2 (decide (form = 3)) q := by unfold YtnonijganceneaaDoorPts.encF; rw [if_neg f1, if_neg f4, if_pos big]
        rw [e, Co.len2, if_neg (by rw [List.length_append, Co.len2]; omega), Co.unit2 _ _ _ hq0.1 big, if_pos hq0.2.2]
      · have e : YtnonijganceneaaDoorPts.encF form q = YtnonijganceneaaDoorPts.unit 2 (decide (form = 3)) (55296 + (q - 65536) / 1024) ++ YtnonijganceneaaDoorPts.unit 2 (decide (form = 3)) (56320 + (q - 65536) % 1024) := by unfold YtnonijganceneaaDoorPts.encF; rw [if_neg f1, if_neg f4, if_neg big]
        have d : ((YtnonijganceneaaDoorPts.unit 2 (decide (form = 3)) (55296 + (q - 65536) / 1024) ++ YtnonijganceneaaDoorPts.unit 2 (decide (form = 3)) (56320 + (q - 65536) % 1024)) ++ t).drop 2 = YtnonijganceneaaDoorPts.unit 2 (decide (form = 3)) (56320 + (q - 65536) % 1024) ++ t := by
          rw [List.append_assoc]
          exact List.drop_left' (Co.len2 _ _)
        have l4 : ((YtnonijganceneaaDoorPts.unit 2 (decide (form = 3)) (55296 + (q - 65536) / 1024) ++ YtnonijganceneaaDoorPts.unit 2 (decide (form = 3)) (56320 + (q - 65536) % 1024)) ++ t).length = 4 + t.length := by
          rw [List.length_append, List.length_append, Co.len2, Co.len2]
        have u1 : YtnonijganceneaaDoorDec.unit2 (decide (form = 3)) ((YtnonijganceneaaDoorPts.unit 2 (decide (form = 3)) (55296 + (q - 65536) / 1024) ++ YtnonijganceneaaDoorPts.unit 2 (decide (form = 3)) (56320 + (q - 65536) % 1024)) ++ t) = 55296 + (q - 65536) / 1024 := by
          rw [List.append_assoc]
          exact Co.unit2 _ _ _ (by omega) (by omega)
        have u2 := Co.unit2 (decide (form = 3)) (56320 + (q - 65536) % 1024) t (by omega) (by omega)
        rw [e, if_neg (by rw [l4]; omega), u1, d, u2, if_neg (by omega), if_neg (by omega), if_neg (by rw [l4]; omega), if_pos (by omega), List.length_append, Co.len2, Co.len2]
        have : 65536 + (55296 + (q - 65536) / 1024 - 55296) * 1024 + (56320 + (q - 65536) % 1024) - 56320 = q := by omega
        rw [this]
theorem Co.dall (form : Int) (hf : 1 ≤ form ∧ form ≤ 5) : ∀ (p : List Int), (∀ q ∈ p, YtnonijganceneaaDoorPts.isP q) → ∀ u : Int, ∃ n, YtnonijganceneaaDoorDec.dall form true (YtnonijganceneaaDoorPts.encsF form p) u = (p, [], n)
  | [], _, u => ⟨u, rfl⟩
  | q :: p, h, u => by
    have hq := h q (List.mem_cons_self ..)
    have hb := Co.encsF_bytes form (q :: p)
    have hp := Co.piece form hf q hq (YtnonijganceneaaDoorPts.encsF form p) (Co.encsF_bytes form p)
    rw [Co.cons] at hb ⊢
    have hne : YtnonijganceneaaDoorPts.encF form q ++ YtnonijganceneaaDoorPts.encsF form p ≠ [] := by
      intro e
      have he := (List.append_eq_nil_iff.1 e).1
      rw [he] at hp
      have := YtnonijganceneaaDoorDec.piece_bound form (l := YtnonijganceneaaDoorPts.encF form q ++ YtnonijganceneaaDoorPts.encsF form p)
      unfold YtnonijganceneaaDoorPts.encF at he
      have hl := YtnonijganceneaaDoorPts.enc_length q
      split at he
      · rw [he] at hl; simp at hl
      · split at he
        · have := congrArg List.length he; rw [Co.len4] at this; simp at this
        · split at he
          · have := congrArg List.length he; rw [Co.len2] at this; simp at this
          · have := congrArg List.length he; rw [List.length_append, Co.len2] at this; simp at this
    obtain ⟨n, hn⟩ := Co.dall form hf p (fun x hx => h x (List.mem_cons_of_mem _ hx)) (u + (YtnonijganceneaaDoorPts.encF form q).length)
    refine ⟨n, ?_⟩
    rw [YtnonijganceneaaDoorDec.dall_cons u hne hb (by rw [hp]; rfl), hp]
    simp only []
    rw [List.drop_left' rfl, hn]
    rfl
theorem Co.chunk (x : List Int) (h : x.length ≤ 1000) : spec_TextOf.f x = some (strOfNums (YtnonijganceneaaDoorPts.encs x)) := by
  have hel := YtnonijganceneaaDoorPts.encs_length x
  have hsz : (strOfNums (YtnonijganceneaaDoorPts.encs x)).size = (YtnonijganceneaaDoorPts.encs x).length := strOfNums_size _
  unfold spec_TextOf.f W_spec_l01Text.f spec_l01Small.f
  rw [if_neg (by omega), if_pos (by omega)]
  simp only [Option.bind_some]
  rw [if_neg (by omega)]
  rfl
theorem Co.str_append (a b : List Int) : strOfNums a ++ strOfNums b = strOfNums (a ++ b) := by
  apply ByteArray.ext
  rw [ByteArray.data_append]
  unfold strOfNums
  simp
theorem Co.well (d : Nat) : ∀ (x y : List Int), x.length < d → y.length + 4 * x.length ≤ 10000000 → laws_lwWell.run d x (strOfNums y) = some (strOfNums (y ++ YtnonijganceneaaDoorPts.encs x)) := by
  induction d with
  | zero => intro x y h1; exact absurd h1 (Nat.not_lt_zero _)
  | succ d ih =>
    intro x y h1 h3
    have hy : (strOfNums y).size = y.length := strOfNums_size _
    rw [laws_lwWell.run]
    by_cases c : x.length = 0
    · obtain rfl : x = [] := List.eq_nil_of_length_eq_zero c
      rw [if_pos (show ([] : List Int).length = 0 from rfl)]
      simp [YtnonijganceneaaDoorPts.encs]
    · obtain ⟨n, hn, n1, n2, n3⟩ : ∃ n, laws_lwWell.m x = n ∧ n ≤ 1000 ∧ n ≤ x.length ∧ 0 < n := by
        refine ⟨_, rfl, ?_⟩
        unfold laws_lwWell.m
        split <;> omega
      have hel := YtnonijganceneaaDoorPts.encs_length (x.take n)
      have hlt : (x.take n).length = n := by rw [List.length_take]; omega
      have hsz : (strOfNums (YtnonijganceneaaDoorPts.encs (x.take n))).size = (YtnonijganceneaaDoorPts.encs (x.take n)).length := strOfNums_size _
      rw [if_neg c, hn, Co.chunk _ (by omega)]
      simp only [Option.bind_some]
      rw [if_pos (by omega), Co.str_append, ih (x.drop n) _ (by rw [List.length_drop]; omega) (by rw [List.length_append, List.length_drop]; omega), List.append_assoc, ← YtnonijganceneaaDoorPts.encs_append, List.take_append_drop]
theorem Co.ascii : ∀ (l : List Int), (∀ b ∈ l, 0 ≤ b ∧ b < 128) → YtnonijganceneaaDoorPts.encs l = l
  | [], _ => rfl
  | b :: l, h => by
    have hb := h b (List.mem_cons_self ..)
    rw [YtnonijganceneaaDoorPts.encs_cons, Co.ascii l (fun x hx => h x (List.mem_cons_of_mem _ hx))]
    have hp : YtnonijganceneaaDoorPts.isP b := by unfold YtnonijganceneaaDoorPts.isP; omega
    unfold YtnonijganceneaaDoorPts.enc
    rw [YtnonijganceneaaDoorPts.fix_of hp]
    unfold YtnonijganceneaaDoorPts.enc1
    rw [if_pos (by omega)]
    rfl
theorem Co.pts_ascii (l : List Int) (h : ∀ b ∈ l, 0 ≤ b ∧ b < 128) : YtnonijganceneaaDoorPts.pts l = l := by
  have e := Co.ascii l h
  have hp : ∀ p ∈ l, YtnonijganceneaaDoorPts.isP p := fun p hp => by have := h p hp; unfold YtnonijganceneaaDoorPts.isP; omega
  have := YtnonijganceneaaDoorPts.pts_encs l
  rw [e, YtnonijganceneaaDoorPts.map_fix hp] at this
  exact this
theorem Co.isForm (p : Int) (h : 1 ≤ p ∧ p ≤ 5) : impl_isForm.f p = some true ∧ spec_l02IsForm.f p = some true := by
  unfold impl_isForm.f impl_in.f spec_l02IsForm.f
  rw [if_pos (show p ≥ 1 from h.1), decide_eq_true h.2]
  exact ⟨rfl, rfl⟩
theorem Co.loop (t : ByteArray) (p : List Int) (hp : YtnonijganceneaaDoorPts.pts (bytesOf t) = p) (hpp : ∀ x ∈ p, YtnonijganceneaaDoorPts.isP x) (hts : t.size ≤ 65536) (hsmall : (YtnonijganceneaaDoorPts.encs p).length ≤ 65536) (d : Nat) :
    ∀ (k : Nat) (f : Int), 1 ≤ f → f = 6 - (d : Int) → d + 1 < k → laws_FnCodes.l0 k t (strOfNums (YtnonijganceneaaDoorPts.encs p)) f = some true := by
  have hpl : p.length ≤ 65536 := by
    have := YtnonijganceneaaDoorPts.pts_length _ (bytesOf t) (Nat.le_refl _)
    rw [hp, bytesOf_length] at this
    omega
  induction d with
  | zero =>
    intro k f h1 h2 h3
    obtain ⟨k, rfl⟩ : ∃ m, k = m + 1 := ⟨k - 1, by omega⟩
    rw [laws_FnCodes.l0, if_neg (by omega)]
  | succ d ih =>
    intro k f h1 h2 h3
    obtain ⟨k, rfl⟩ : ∃ m, k = m + 2 := ⟨k - 2, by omega⟩
    have hw : wrap64 (f + 1) = f + 1 := by unfold wrap64; omega
    have next := ih (k + 1) (f + 1) (by omega) (by omega) (by omega)
    have hf : 1 ≤ f ∧ f ≤ 5 := by omega
    obtain ⟨E, hE⟩ : ∃ E, strOfNums (YtnonijganceneaaDoorPts.encsF f p) = E := ⟨_, rfl⟩
    have e0 : YtnonijganceneaaDoorPts.encsF 1 p = YtnonijganceneaaDoorPts.encs p := by
      unfold YtnonijganceneaaDoorPts.encsF YtnonijganceneaaDoorPts.encs
      congr 1
    have i1 : impl_Encode.f f t = impl_short.f E := by
      unfold impl_Encode.f W_impl_points.f
      rw [if_neg (by omega), if_pos hf, if_pos (by omega), hp]
      simp only [Option.bind_some]
      by_cases c : f = 1
      · rw [if_pos c]
        unfold W_impl_write.f
        rw [if_pos (by omega)]
        simp only [Option.bind_some]
        rw [← hE, c, e0]
      · rw [if_neg c, if_pos ⟨by omega, hpp⟩, hE]
    have i2 : spec_Encode.f (k + 1) f t = impl_short.f E := by
      unfold spec_Encode.f
      rw [if_neg (by omega), (Co.isForm f hf).2]
      simp only [Option.bind_some]
      rw [spec_Encode.j0]
      rw [if_neg (by decide)]
      unfold W_spec_l01Points.f W_spec_l02Encode.f
      rw [if_pos (by omega), hp]
      simp only [Option.bind_some]
      rw [if_pos ⟨hf, by omega, hpp⟩, hE]
      simp only [Option.bind_some]
      unfold spec_l01Small.f impl_short.f impl_long.f
      simp only [Option.bind_some]
      by_cases c : (E.size : Int) > 65536
      · rw [if_pos c, if_pos (decide_eq_true c)]; rfl
      · rw [if_neg c, if_neg (by simpa using c)]; rfl
    rw [laws_FnCodes.l0, if_pos hf.2, i1, i2]
    unfold impl_short.f impl_long.f
    simp only [Option.bind_some]
    by_cases c : (E.size : Int) > 65536
    · rw [if_pos (decide_eq_true c)]
      simp only [Option.bind_some]
      rw [if_pos trivial]
      have hd : ∃ x, impl_Decode.f f (⟨#[]⟩ : ByteArray) = some x := by
        unfold impl_Decode.f impl_long.f
        simp only [Option.bind_some]
        rw [if_neg (by decide), (Co.isForm f hf).1]
        simp only [Option.bind_some, if_true]
        unfold W_impl_decode.f
        rw [if_pos ⟨hf, by decide⟩]
        simp only [Option.bind_some]
        split <;> exact ⟨_, rfl⟩
      obtain ⟨x, hx⟩ := hd
      rw [hx]
      simp only [Option.bind_some]
      rw [if_pos (by rw [ByteArray.toList_eq]), hw]
      exact next
    · rw [if_neg (by simpa using c)]
      simp only [Option.bind_some]
      rw [if_pos trivial]
      have hEb : bytesOf E = YtnonijganceneaaDoorPts.encsF f p := by rw [← hE]; exact YtnonijganceneaaDoorPts.bytesOf_strOfNums (Co.encsF_bytes f p)
      obtain ⟨n, hn⟩ := Co.dall f hf p hpp 0
      have hD : impl_decode.D f E false = (p, [], n) := by
        unfold impl_decode.D
        rw [hEb]
        exact hn
      have hd : impl_Decode.f f E = some (0, strOfNums (YtnonijganceneaaDoorPts.encs p), []) := by
        unfold impl_Decode.f impl_long.f
        simp only [Option.bind_some]
        rw [if_neg (by simpa using c), (Co.isForm f hf).1]
        simp only [Option.bind_some, if_true]
        unfold W_impl_decode.f
        rw [if_pos ⟨hf, by omega⟩, hD]
        simp only [Option.bind_some]
        rw [if_neg (by rw [decide_eq_true_eq, strOfNums_size]; omega)]
      rw [hd]
      simp only [Option.bind_some]
      rw [hw]
      split
      · exact next
      · rw [if_pos trivial, if_pos trivial, if_pos (show (([] : List Int).length : Int) = 0 from rfl)]
        exact next
theorem FnCodes : laws_FnCodes.Pure := by
  intro l hm hl hb
  refine ⟨200, ?_⟩
  unfold laws_FnCodes.f
  by_cases c : (l.length : Int) > 1048576
  · rw [if_pos c]
  · rw [if_neg c]
    obtain ⟨t, ht, hts, has⟩ := W_spec_DrawPointsOf.has2 (l := l) (by omega)
    rw [ht]
    simp only [Option.bind_some]
    by_cases big : (t.size : Int) > 65536
    · have w : laws_lwWell.f t = some (⟨#[]⟩ : ByteArray) := by
        unfold laws_lwWell.f spec_PointsOf.f
        rw [if_pos big]
        simp only [Option.bind_some]
        rw [laws_lwWell.run, if_pos (show ([] : List Int).length = 0 from rfl)]
      rw [w]
      simp only [Option.bind_some]
      have none_ : ∀ (d k : Nat) (f : Int), 1 ≤ f → f = 6 - (d : Int) → d + 1 < k → laws_FnCodes.l0 k t (⟨#[]⟩ : ByteArray) f = some true := by
        intro d
        induction d with
        | zero =>
          intro k f h1 h2 h3
          obtain ⟨k, rfl⟩ : ∃ m, k = m + 1 := ⟨k - 1, by omega⟩
          rw [laws_FnCodes.l0, if_neg (by omega)]
        | succ d ih =>
          intro k f h1 h2 h3
          obtain ⟨k, rfl⟩ : ∃ m, k = m + 2 := ⟨k - 2, by omega⟩
          have hf : 1 ≤ f ∧ f ≤ 5 := by omega
          have hw : wrap64 (f + 1) = f + 1 := by unfold wrap64; omega
          have i1 : impl_Encode.f f t = some (⟨#[]⟩ : ByteArray) := by unfold impl_Encode.f; rw [if_pos big]
          have i2 : spec_Encode.f (k + 1) f t = some (⟨#[]⟩ : ByteArray) := by
            unfold spec_Encode.f
            rw [if_pos big, spec_Encode.j0, if_pos rfl]
          rw [laws_FnCodes.l0, if_pos hf.2, i1, i2]
          simp only [Option.bind_some]
          rw [if_pos trivial]
          have hd : ∃ x, impl_Decode.f f (⟨#[]⟩ : ByteArray) = some x := by
            unfold impl_Decode.f impl_long.f
            simp only [Option.bind_some]
            rw [if_neg (by decide), (Co.isForm f hf).1]
            simp only [Option.bind_some, if_true]
            unfold W_impl_decode.f
            rw [if_pos ⟨hf, by decide⟩]
            simp only [Option.bind_some]
            split <;> exact ⟨_, rfl⟩
          obtain ⟨x, hx⟩ := hd
          rw [hx]
          simp only [Option.bind_some]
          rw [if_pos (by rw [ByteArray.toList_eq]), hw]
          exact ih (k + 1) (f + 1) (by omega) (by omega) (by omega)
      exact none_ 5 200 1 (by omega) (by omega) (by omega)
    · obtain ⟨p, hp⟩ : ∃ p, YtnonijganceneaaDoorPts.pts (bytesOf t) = p := ⟨_, rfl⟩
      have hpl : p.length ≤ t.size := by
        have := YtnonijganceneaaDoorPts.pts_length _ (bytesOf t) (Nat.le_refl _)
        rw [hp, bytesOf_length] at this
        exact this
      have hpp : ∀ x ∈ p, YtnonijganceneaaDoorPts.isP x := by
        rw [← hp]; exact YtnonijganceneaaDoorPts.pts_isP _ _ (Nat.le_refl _)
      have hsmall : (YtnonijganceneaaDoorPts.encs p).length ≤ 65536 := by
        rcases has with h | h
        · have := YtnonijganceneaaDoorPts.encs_length p
          omega
        · have h2 : ∀ b ∈ bytesOf t, 0 ≤ b ∧ b < 128 := fun b hb => ⟨(YtnonijganceneaaDoorPts.bytes_range t b hb).1, h b hb⟩
          rw [← hp, Co.pts_ascii _ h2, Co.ascii _ h2, bytesOf_length]
          omega
      have w : laws_lwWell.f t = some (strOfNums (YtnonijganceneaaDoorPts.encs p)) := by
        unfold laws_lwWell.f spec_PointsOf.f W_spec_l01Points.f
        rw [if_neg big, if_pos (by omega), hp]
        simp only [Option.bind_some]
        have := Co.well (p.length + 1) p [] (by omega) (by simp; omega)
        simpa [strOfNums] using this
      rw [w]
      simp only [Option.bind_some]
      exact Co.loop t p hp hpp (by omega) hsmall 5 200 1 (by omega) (by omega) (by omega)

end Go.Proofs.YtnonijganceneaaDoor.Pure
