/- The law FnExactFeedDecoder in plain Lean: the reference and the program tell the same of what a decoder is fed, at every input. -/
import Derived.Test.YtnonijganceneaaDoorQFnExactFeedDecoderx18
namespace Go.Proofs.YtnonijganceneaaDoor.Pure
open Go.RowKit Go.Proofs.YtnonijganceneaaDoor.QFnExactFeedDecoder Go.Proofs.YtnonijganceneaaDoorW.PrintWords Go.Proofs.YtnonijganceneaaDoorW.PrintLast

theorem Feed.len (form : Int) (last : Bool) : ∀ (n : Nat) (l : List Int) (u : Int), l.length ≤ n → (∀ b ∈ l, 0 ≤ b ∧ b < 256) → (YtnonijganceneaaDoorDec.dall form last l u).1.length ≤ l.length ∧ (YtnonijganceneaaDoorDec.dall form last l u).2.1.length ≤ l.length
  | 0, l, u, h, _ => by
    obtain rfl : l = [] := List.eq_nil_of_length_eq_zero (by omega)
    exact ⟨Nat.le_refl _, Nat.le_refl _⟩
  | n + 1, l, u, h, hb => by
    by_cases e : l = []
    · subst e; exact ⟨Nat.le_refl _, Nat.le_refl _⟩
    · by_cases c : ((YtnonijganceneaaDoorDec.pieceP form l).2.2.2 && !last) = true
      · rw [YtnonijganceneaaDoorDec.dall_stop u e c]; exact ⟨Nat.zero_le _, Nat.zero_le _⟩
      · have hp := YtnonijganceneaaDoorDec.piece_bound form e hb
        rw [YtnonijganceneaaDoorDec.dall_cons u e hb (by simpa using c)]
        have := Feed.len form last n (l.drop (YtnonijganceneaaDoorDec.pieceP form l).2.1) (u + (YtnonijganceneaaDoorDec.pieceP form l).2.1) (by rw [List.length_drop]; omega) (fun b h => hb b (List.mem_of_mem_drop h))
        rw [List.length_drop] at this
        refine ⟨?_, ?_⟩
        · rw [List.length_cons]; omega
        · rw [List.length_append]
          split <;> simp only [List.length_cons, List.length_nil] <;> omega
theorem DFault.form (p : Int) : spec_l02IsForm.f p = some (decide (1 ≤ p ∧ p ≤ 5)) := by
  unfold spec_l02IsForm.f
  by_cases a : p ≥ 1
  · rw [if_pos a]
    have : decide (p ≤ 5) = decide (1 ≤ p ∧ p ≤ 5) := decide_eq_decide.2 ⟨fun z => ⟨a, z⟩, fun z => z.2⟩
    rw [this]
  · rw [if_neg a, decide_eq_false (fun z => a z.1)]
theorem DFault.spec (p : Int) (s : ByteArray) (n : Int) : spec_DecoderFault.f p s n = some (impl_DecoderFault.g p s n) := by
  unfold spec_DecoderFault.f impl_DecoderFault.g
  rw [DFault.form]
  simp only [Option.bind_some]
  by_cases f : 1 ≤ p ∧ p ≤ 5
  · rw [if_pos (decide_eq_true f)]
    by_cases n0 : n < 0
    · rw [if_pos n0, if_neg (by omega)]
    · rw [if_neg n0]
      by_cases n1 : n > 1000000000000
      · rw [if_pos n1, if_neg (by omega)]
      · rw [if_neg n1]
        by_cases c : (s.size : Int) > 3
        · rw [if_pos c, if_neg (by omega)]
        · rw [if_neg c, if_pos (show (1 ≤ p ∧ p ≤ 5) ∧ 0 ≤ n ∧ n ≤ 1000000000000 ∧ s.size ≤ 3 from ⟨f, by omega, by omega, by omega⟩)]
          unfold spec_l02Decode.f
          rw [if_pos (by omega)]
          simp only [Option.bind_some]
          have hl := bytesOf_length s
          have hb := YtnonijganceneaaDoorPts.bytes_range s
          by_cases z : s.size = 0
          · have e : bytesOf s = [] := List.eq_nil_of_length_eq_zero (by rw [hl]; exact z)
            rw [e, if_pos z]; rfl
          · have hne : bytesOf s ≠ [] := fun y => z (by rw [← hl, y]; rfl)
            rw [if_neg z]
            by_cases w : (YtnonijganceneaaDoorDec.pieceP p (bytesOf s)).2.2.2 = true
            · rw [YtnonijganceneaaDoorDec.dall_stop 0 hne (by rw [w]; rfl), if_pos w]; rfl
            · have hp := YtnonijganceneaaDoorDec.piece_bound p hne hb
              have hg := YtnonijganceneaaDoorDec.dall_ge p false _ ((bytesOf s).drop (YtnonijganceneaaDoorDec.pieceP p (bytesOf s)).2.1) (0 + (YtnonijganceneaaDoorDec.pieceP p (bytesOf s)).2.1) (Nat.le_refl _) (fun b h => hb b (List.mem_of_mem_drop h))
              rw [YtnonijganceneaaDoorDec.dall_cons 0 hne hb (by simpa using w), if_neg w]
              rw [if_pos (show _ > (0 : Int) by simp only []; omega)]
  · rw [if_neg (by simpa using f), if_neg (fun z => f z.1)]
theorem Feed.used (form : Int) (last : Bool) : ∀ (n : Nat) (l : List Int) (u : Int), l.length ≤ n → (∀ b ∈ l, 0 ≤ b ∧ b < 256) → (YtnonijganceneaaDoorDec.dall form last l u).2.2 ≤ u + (l.length : Int)
  | 0, l, u, h, _ => by
    obtain rfl : l = [] := List.eq_nil_of_length_eq_zero (by omega)
    show u ≤ u + ((0 : Nat) : Int)
    omega
  | n + 1, l, u, h, hb => by
    by_cases e : l = []
    · subst e
      show u ≤ u + ((0 : Nat) : Int)
      omega
    · by_cases c : ((YtnonijganceneaaDoorDec.pieceP form l).2.2.2 && !last) = true
      · rw [YtnonijganceneaaDoorDec.dall_stop u e c]
        show u ≤ u + (l.length : Int)
        omega
      · have hp := YtnonijganceneaaDoorDec.piece_bound form e hb
        rw [YtnonijganceneaaDoorDec.dall_cons u e hb (by simpa using c)]
        have := Feed.used form last n (l.drop (YtnonijganceneaaDoorDec.pieceP form l).2.1) (u + (YtnonijganceneaaDoorDec.pieceP form l).2.1) (by rw [List.length_drop]; omega) (fun b h => hb b (List.mem_of_mem_drop h))
        rw [List.length_drop] at this
        show (YtnonijganceneaaDoorDec.dall form last (l.drop (YtnonijganceneaaDoorDec.pieceP form l).2.1) (u + (YtnonijganceneaaDoorDec.pieceP form l).2.1)).2.2 ≤ u + (l.length : Int)
        omega
theorem Feed.specRun (g : Int) (b : List Int) (hl : b.length ≤ 1099511627776) (y1 : Int) (y2 : ByteArray) (y4 : List Int) (y6 y7 y8 : Int) (y9 : ByteArray) (y10 : Int) (y11 : ByteArray) (d : Nat) : ∀ (k i : Nat) (acc : List Int), i ≤ b.length → b.length - i = d → d < k → acc.length ≤ i →
    spec_l02Feed.l0 k (i : Int) y1 y2 g y4 b y6 y7 y8 y9 y10 y11 acc = some (y7, y8, y9, y10, y11, acc ++ (b.drop i).map (fun x => wrap64 (g + x))) := by
  induction d with
  | zero =>
    intro k i acc h1 h2 h3 h4
    obtain ⟨k, rfl⟩ : ∃ m, k = m + 1 := ⟨k - 1, by omega⟩
    rw [spec_l02Feed.l0, if_neg (by omega), List.drop_eq_nil_of_le (by omega), List.map_nil, List.append_nil]
  | succ d ih =>
    intro k i acc h1 h2 h3 h4
    obtain ⟨k, rfl⟩ : ∃ m, k = m + 1 := ⟨k - 1, by omega⟩
    have hlt : i < b.length := by omega
    have hw : wrap64 ((i : Int) + 1) = ((i + 1 : Nat) : Int) := by unfold wrap64; omega
    have rb : rd b (i : Int) = b[i] := by simp [rd, List.getD, hlt]
    rw [spec_l02Feed.l0, if_pos (by omega), if_pos (by omega), if_pos (by omega), rb, hw, List.drop_eq_getElem_cons hlt, ih k (i + 1) _ (by omega) (by omega) (by omega) (by rw [List.length_append]; simp only [List.length_cons, List.length_nil]; omega), List.map_cons, List.append_assoc]
    rfl
theorem Feed.implRun (s t left held : ByteArray) (form g : Int) (b : List Int) (hl : b.length ≤ 1099511627776) (d : Nat) : ∀ (k i : Nat) (x : List Int), x.length = b.length → (∀ j < i, x[j]? = (b.map (fun x => wrap64 (g + x)))[j]?) → (∀ j, i ≤ j → x[j]? = b[j]?) → i ≤ b.length → b.length - i = d → d < k →
    impl_Decoder_out.l0 k s t x left (b.length : Int) (i : Int) form held g = some (0, form, left, wrap64 (g + (wrap64 ((s.size : Int) - (left.size : Int)))), t, b.map (fun x => wrap64 (g + x))) := by
  induction d with
  | zero =>
    intro k i x hx hg hn h2 h3 h4
    obtain ⟨k, rfl⟩ : ∃ m, k = m + 1 := ⟨k - 1, by omega⟩
    obtain rfl : i = b.length := by omega
    rw [impl_Decoder_out.l0, if_neg (by omega)]
    have e : x = b.map (fun x => wrap64 (g + x)) := by
      apply List.ext_getElem?
      intro j
      by_cases hj : j < b.length
      · exact hg j hj
      · rw [List.getElem?_eq_none (by omega), List.getElem?_eq_none (by rw [List.length_map]; omega)]
    rw [e]
  | succ d ih =>
    intro k i x hx hg hn h2 h3 h4
    obtain ⟨k, rfl⟩ : ∃ m, k = m + 1 := ⟨k - 1, by omega⟩
    have hlt : i < b.length := by omega
    have hw : wrap64 ((i : Int) + 1) = ((i + 1 : Nat) : Int) := by unfold wrap64; omega
    have rx : rd x (i : Int) = b[i] := by
      have := hn i (Nat.le_refl _)
      simp [rd, List.getD, this, hlt]
    rw [impl_Decoder_out.l0, if_pos (by omega), if_pos (by omega), if_pos (by omega), hw, Int.toNat_natCast, rx]
    refine ih k (i + 1) _ (by rw [List.length_set]; exact hx) ?_ ?_ (by omega) (by omega) (by omega)
    · intro j hj
      by_cases c : j = i
      · subst c
        rw [List.getElem?_set_self (by omega), List.getElem?_map, List.getElem?_eq_getElem hlt, Int.add_comm]
        rfl
      · rw [List.getElem?_set_ne (by omega)]; exact hg j (by omega)
    · intro j hj
      rw [List.getElem?_set_ne (by omega)]
      exact hn j (by omega)
def Feed.out (p : Int) (s : ByteArray) (g : Int) (D : List Int × List Int × Int) : Int × Int × ByteArray × Int × ByteArray × List Int :=
  if (((strOfNums (YtnonijganceneaaDoorPts.encs D.1)).size : Int)) > 65536 then (2, 0, (⟨#[]⟩ : ByteArray), 0, (⟨#[]⟩ : ByteArray), ([] : List Int))
  else (0, p, s.extract D.2.2.toNat s.size, wrap64 (g + D.2.2), strOfNums (YtnonijganceneaaDoorPts.encs D.1), D.2.1.map (fun x => wrap64 (g + x)))
theorem Feed.spec (k : Nat) (p : Int) (h : ByteArray) (g : Int) (d s : ByteArray) (last : Bool) (hsd : h ++ d = s) (hs : s.size ≤ 1000000) (hk : (YtnonijganceneaaDoorDec.dall p last (bytesOf s) 0).2.1.length < k) :
    spec_l02Feed.f k p h g d last = some (Feed.out p s g (YtnonijganceneaaDoorDec.dall p last (bytesOf s) 0)) := by
  have hl := Feed.len p last _ (bytesOf s) 0 (Nat.le_refl _) (YtnonijganceneaaDoorPts.bytes_range s)
  have hu := Feed.used p last _ (bytesOf s) 0 (Nat.le_refl _) (YtnonijganceneaaDoorPts.bytes_range s)
  have hg := YtnonijganceneaaDoorDec.dall_ge p last _ (bytesOf s) 0 (Nat.le_refl _) (YtnonijganceneaaDoorPts.bytes_range s)
  rw [bytesOf_length] at hl hu
  have hz : h.size + d.size = s.size := by rw [← hsd, ByteArray.size_append]
  unfold spec_l02Feed.f spec_l02Decode.f
  rw [hsd, if_pos (by omega), if_pos (by omega), hz]
  obtain ⟨D, hD⟩ : ∃ D, YtnonijganceneaaDoorDec.dall p last (bytesOf s) 0 = D := ⟨_, rfl⟩
  rw [hD] at hl hu hg hk ⊢
  simp only [Option.bind_some]
  unfold W_spec_l01Text.f Feed.out
  rw [if_pos (by omega)]
  simp only [Option.bind_some]
  by_cases c : (((strOfNums (YtnonijganceneaaDoorPts.encs D.1)).size : Int)) > 65536
  · rw [if_pos c, if_pos c]
  · rw [if_neg c, if_neg c, if_pos hg, if_pos (by omega)]
    exact Feed.specRun g D.2.1 (by omega) p h D.1 D.2.2 0 p _ _ _ D.2.1.length k 0 [] (Nat.zero_le _) rfl hk (Nat.le_refl _)
theorem Feed.impl (k : Nat) (p : Int) (h : ByteArray) (g : Int) (s : ByteArray) (more : Bool) (hf : 1 ≤ p ∧ p ≤ 5) (hs : s.size ≤ 1000000) (hk : (YtnonijganceneaaDoorDec.dall p (!more) (bytesOf s) 0).2.1.length < k) :
    impl_Decoder_out.f k p h g s more = some (Feed.out p s g (YtnonijganceneaaDoorDec.dall p (!more) (bytesOf s) 0)) := by
  have hl := Feed.len p (!more) _ (bytesOf s) 0 (Nat.le_refl _) (YtnonijganceneaaDoorPts.bytes_range s)
  have hu := Feed.used p (!more) _ (bytesOf s) 0 (Nat.le_refl _) (YtnonijganceneaaDoorPts.bytes_range s)
  have hg := YtnonijganceneaaDoorDec.dall_ge p (!more) _ (bytesOf s) 0 (Nat.le_refl _) (YtnonijganceneaaDoorPts.bytes_range s)
  rw [bytesOf_length] at hl hu
  unfold impl_Decoder_out.f W_impl_decode.f impl_decode.D impl_long.f
  rw [if_pos ⟨hf, by omega⟩]
  obtain ⟨D, hD⟩ : ∃ D, YtnonijganceneaaDoorDec.dall p (!more) (bytesOf s) 0 = D := ⟨_, rfl⟩
  rw [hD] at hl hu hg hk ⊢
  simp only [Option.bind_some]
  unfold Feed.out
  by_cases c : (((strOfNums (YtnonijganceneaaDoorPts.encs D.1)).size : Int)) > 65536
  · rw [if_pos (decide_eq_true c), if_pos c]
  · rw [if_neg (by simpa using c), if_neg c]
    rw [show (0 : Int) = ((0 : Nat) : Int) from rfl, Feed.implRun s _ _ h p g D.2.1 (by omega) D.2.1.length k 0 D.2.1 rfl (fun j hj => absurd hj (Nat.not_lt_zero _)) (fun _ _ => rfl) (Nat.zero_le _) rfl hk]
    have e : wrap64 ((s.size : Int) - ((s.extract D.2.2.toNat s.size).size : Int)) = D.2.2 := by
      rw [ByteArray.size_extract]
      clear hk c hD hl
      unfold wrap64
      omega
    rw [e]
    rfl
theorem Feed.len_out (p : Int) (s : ByteArray) (g : Int) (D : List Int × List Int × Int) (h : D.2.1.length ≤ 1000000) : (Feed.out p s g D).2.2.2.2.2.length ≤ 1000000 := by
  unfold Feed.out
  split
  · exact Nat.zero_le _
  · rw [List.length_map]; exact h
theorem Feed.eq (c p : Int) (h : ByteArray) (g : Int) (t : ByteArray) (b : List Int) (hb : b.length ≤ 1000000) : laws_eqDecoderOut.f c p h g t b c p h g t b = some true ∧ laws_markDecoderOut.f c p h g t b 1 = some (1 + (b.length : Int), laws_markInt64S.marks 1 b.length) ∧
    laws_heldDecoderOut.f c p h g t (laws_markInt64S.marks 1 b.length) 1 = some (1 + (b.length : Int)) := by
  refine ⟨?_, ?_, ?_⟩
  · unfold laws_eqDecoderOut.f laws_eqDecoder.f W_laws_eqInt64S.f
    rw [if_pos rfl, if_pos rfl, if_pos rfl, if_pos rfl]
    simp only [Option.bind_some]
    rw [if_pos trivial, if_pos trivial, if_pos (by omega), decide_eq_true trivial]
    rfl
  · unfold laws_markDecoderOut.f W_laws_markInt64S.f
    rw [if_pos ⟨by omega, by omega, by omega⟩]
    rfl
  · have hl : (laws_markInt64S.marks 1 b.length).length = b.length := by simp [laws_markInt64S.marks]
    unfold laws_heldDecoderOut.f W_laws_heldInt64S.f
    rw [hl, if_pos ⟨⟨by omega, by omega, by omega⟩, rfl⟩]
    simp only [Option.bind_some]
    rw [if_neg (by omega)]
theorem Feed.both (p : Int) (h : ByteArray) (g : Int) (d : ByteArray) : ∃ k O, spec_FeedDecoder.f k p h g d = some O ∧ impl_FeedDecoder.f k p h g d = some O ∧ O.2.2.2.2.2.length ≤ 1000000 := by
  unfold spec_FeedDecoder.f impl_FeedDecoder.f impl_long.f W_impl_DecoderFault.f
  rw [DFault.spec]
  simp only [Option.bind_some]
  by_cases z : (d.size : Int) > 65536
  · simp only [if_pos z, if_pos (decide_eq_true z)]
    exact ⟨0, _, rfl, rfl, Nat.zero_le _⟩
  · simp only [if_neg z, if_neg (show ¬ decide ((d.size : Int) > 65536) = true by simpa using z)]
    by_cases c : impl_DecoderFault.g p h g = 0
    · simp only [if_pos c]
      have hc := c
      unfold impl_DecoderFault.g at hc
      have hh : (1 ≤ p ∧ p ≤ 5) ∧ h.size ≤ 3 := by
        by_cases w : (1 ≤ p ∧ p ≤ 5) ∧ 0 ≤ g ∧ g ≤ 1000000000000 ∧ h.size ≤ 3
        · exact ⟨w.1, w.2.2.2⟩
        · rw [if_neg w] at hc; cases hc
      obtain ⟨s, hs⟩ : ∃ s, h ++ d = s := ⟨_, rfl⟩
      have hz : h.size + d.size = s.size := by rw [← hs, ByteArray.size_append]
      have hl := Feed.len p false _ (bytesOf s) 0 (Nat.le_refl _) (YtnonijganceneaaDoorPts.bytes_range s)
      rw [bytesOf_length] at hl
      rw [hs]
      simp only [if_pos (show h.size + d.size ≤ 9223372036854775807 by omega)]
      refine ⟨(YtnonijganceneaaDoorDec.dall p false (bytesOf s) 0).2.1.length + 1, Feed.out p s g (YtnonijganceneaaDoorDec.dall p false (bytesOf s) 0), ?_, ?_, Feed.len_out _ _ _ _ (by omega)⟩
      · rw [Feed.spec _ p h g d s false hs (by omega) (Nat.lt_succ_self _)]; rfl
      · have := Feed.impl (YtnonijganceneaaDoorDec.dall p false (bytesOf s) 0).2.1.length.succ p h g s true hh.1 (by omega) (Nat.lt_succ_self _)
        rw [Bool.not_true] at this
        rw [this]; rfl
    · simp only [if_neg c]
      exact ⟨0, _, rfl, rfl, Nat.zero_le _⟩
theorem FnExactFeedDecoder (a0 : Int) (a1 : ByteArray) (a2 : Int) (d : ByteArray) : ∃ k, laws_FnExactFeedDecoder.f k a0 a1 a2 d = some true := by
  obtain ⟨k, ⟨c, p, h, g, t, b⟩, h1, h2, hb⟩ := Feed.both a0 a1 a2 d
  refine ⟨k, ?_⟩
  obtain ⟨e1, e2, e3⟩ := Feed.eq c p h g t b hb
  unfold laws_FnExactFeedDecoder.f laws_szDecoder.f laws_toDecoder.f
  have n : ¬ (1 + (b.length : Int) < 0) := by omega
  by_cases z : (d.size : Int) > 1048576
  · rw [if_pos z]
  · rw [if_neg z]
    by_cases c : (wrap64 (1048576 - (a1.size : Int))) < 0
    · rw [if_pos c]; rfl
    · rw [if_neg c]
      simp only [Option.bind_some]
      rw [if_neg c, h1, h2]
      simp only [Option.bind_some, e1, e2, e3, if_neg n, if_true]

end Go.Proofs.YtnonijganceneaaDoor.Pure
