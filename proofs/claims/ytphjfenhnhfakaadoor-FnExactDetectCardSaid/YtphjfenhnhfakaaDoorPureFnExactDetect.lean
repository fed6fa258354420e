/- The law FnExactDetect in plain Lean: the reference and the program tell the same form of the same bytes, at every input. -/
import Derived.Test.YtphjfenhnhfakaaDoorQFnExactDetectx10
import Derived.Lib.ValidLaws
import Derived.Lib.IndexLaws
namespace Go.Proofs.YtphjfenhnhfakaaDoor.Pure
open Go.RowKit Go.Proofs.YtphjfenhnhfakaaDoor.QFnExactDetect Go.Proofs.YtphjfenhnhfakaaDoorW.PrintWords Go.Proofs.YtphjfenhnhfakaaDoorW.PrintLast

theorem Detect.pre (s p : ByteArray) : strings_HasPrefix.f s p = some (spec_Detect.b s p) := by
  unfold strings_HasPrefix.f stringslite_HasPrefix.f spec_Detect.b
  by_cases c : p.size ≤ s.size
  · rw [if_pos (by omega), if_pos (by omega), if_pos (by omega), decide_eq_true c, Bool.true_and]; rfl
  · rw [if_neg (by omega), decide_eq_false c, Bool.false_and]; rfl
theorem Detect.dec (l : List UInt8) : (((Lib.decodeL l).1 : Int), (Lib.decodeL l).2) = YtphjfenhnhfakaaDoorPts.dec (l.map fun b => (b.toNat : Int)) := by
  have h := YtphjfenhnhfakaaDoorPts.decode_dec ⟨l.toArray⟩ 0
  rw [List.drop_zero] at h
  exact h
theorem Detect.valid : ∀ (n : Nat) (l : List UInt8) (u : Int), l.length ≤ n → Lib.validD l = decide ((YtphjfenhnhfakaaDoorDec.dall 1 true (l.map fun b => (b.toNat : Int)) u).2.1.length = 0)
  | 0, l, u, h => by
    obtain rfl : l = [] := List.eq_nil_of_length_eq_zero (by omega)
    rfl
  | n + 1, l, u, h => by
    by_cases e : l = []
    · subst e; rfl
    · have hne : (l.map fun b => (b.toNat : Int)) ≠ [] := by simpa using e
      have hby : ∀ x ∈ (l.map fun b => (b.toNat : Int)), 0 ≤ x ∧ x < 256 := by
        intro x hx
        obtain ⟨b, _, rfl⟩ := List.mem_map.1 hx
        have := b.toNat_lt
        omega
      have hd := Detect.dec l
      have hp := YtphjfenhnhfakaaDoorDec.piece_bound 1 hne hby
      have hc := YtphjfenhnhfakaaDoorDec.could_dec hne hby
      have hpos := @YtphjfenhnhfakaaDoorDec.could_pos (l.map fun b => (b.toNat : Int))
      have ih := fun u => Detect.valid n (l.drop (YtphjfenhnhfakaaDoorDec.pieceP 1 (l.map fun b => (b.toNat : Int))).2.1) u (by rw [List.length_map] at hp; rw [List.length_drop]; omega)
      have hb := YtphjfenhnhfakaaDoorPts.dec_bound hne
      have e8 : YtphjfenhnhfakaaDoorDec.pieceP 1 (l.map fun b => (b.toNat : Int)) = YtphjfenhnhfakaaDoorDec.piece8 (l.map fun b => (b.toNat : Int)) := rfl
      rw [Lib.validD_step l e, YtphjfenhnhfakaaDoorDec.dall_cons u hne hby (by simp), ← List.map_drop]
      obtain ⟨L, hL⟩ : ∃ L, (l.map fun b => (b.toNat : Int)) = L := ⟨_, rfl⟩
      rw [hL] at hd hp hc hpos e8 ih ⊢
      have e1 : ((Lib.decodeL l).1 : Int) = (YtphjfenhnhfakaaDoorPts.dec L).1 := by rw [← hd]
      have e2 : (Lib.decodeL l).2 = (YtphjfenhnhfakaaDoorPts.dec L).2 := by rw [← hd]
      by_cases c : (YtphjfenhnhfakaaDoorDec.could L).2 = true
      · obtain ⟨d1, d2⟩ := hc.2.2.1 c
        have hp1 := hpos c
        have e9 : YtphjfenhnhfakaaDoorDec.piece8 L = ((YtphjfenhnhfakaaDoorPts.dec L).1, (YtphjfenhnhfakaaDoorDec.could L).1, false, false) := by
          unfold YtphjfenhnhfakaaDoorDec.piece8; rw [if_neg (by omega), if_pos c]
        rw [e8, e9] at ih ⊢
        have hno : ¬ ((Lib.decodeL l).1 = 65533 ∧ (Lib.decodeL l).2 = 1) := by
          rintro ⟨z1, z2⟩
          rcases d2 with z | z
          · omega
          · obtain ⟨c0, q0, _⟩ := YtphjfenhnhfakaaDoorDec.getD_nat hby 0
            rw [hL] at q0
            have hdec : YtphjfenhnhfakaaDoorPts.dec L = ((c0 : Int), 1) := by
              unfold YtphjfenhnhfakaaDoorPts.dec Lib.decodeN
              rw [q0, Int.toNat_natCast, if_pos (by omega)]
            rw [hdec] at e1
            simp only [] at e1
            omega
        rw [if_neg hno, e2, d1, ih (u + (YtphjfenhnhfakaaDoorDec.could L).1)]
        simp
      · have c := Bool.eq_false_iff.mpr c
        obtain ⟨d1, d2⟩ := hc.2.2.2 c
        have br : (YtphjfenhnhfakaaDoorDec.piece8 L).2.2.1 = true := by
          unfold YtphjfenhnhfakaaDoorDec.piece8
          by_cases z : (YtphjfenhnhfakaaDoorDec.could L).1 = 0
          · rw [if_pos z]
          · rw [if_neg z, if_neg (by rw [c]; decide)]
        rw [d1] at e1 e2
        have e3 : ((Lib.decodeL l).1 : Int) = 65533 := e1
        rw [if_pos ⟨by omega, e2⟩, e8, if_pos br]
        simp
theorem Detect.zs_zero (s : ByteArray) (n : Nat) : (spec_Detect.zs s n).1 + (spec_Detect.zs s n).2 = 0 ↔ ∀ i : Nat, i < n → bt s (i : Int) ≠ 0 := by
  induction n with
  | zero => simp [spec_Detect.zs]
  | succ n ih =>
    have hb := spec_Detect.zs_bound s n
    simp only [spec_Detect.zs]
    by_cases c : bt s (n : Int) = 0
    · rw [if_pos c]
      constructor
      · intro h
        exfalso
        split at h <;> (simp only [] at h; omega)
      · intro h
        exact absurd c (h n (by omega))
    · rw [if_neg c, ih]
      constructor
      · intro h i hi
        by_cases e : i = n
        · rw [e]; exact c
        · exact h i (by omega)
      · intro h i hi; exact h i (by omega)
theorem Detect.index (s : ByteArray) : decide (Lib.indexByte s.data.toList 0 < 0) = decide ((spec_Detect.zs s s.size).1 + (spec_Detect.zs s s.size).2 = 0) := by
  apply decide_eq_decide.2
  rw [Detect.zs_zero]
  have hg := Lib.indexByte_ge s.data.toList 0
  have hl := data_length s
  have hget : ∀ i : Nat, i < s.size → (s.data.toList[i]? = some 0 ↔ bt s (i : Int) = 0) := by
    intro i hi
    have h' : i < s.data.toList.length := by omega
    rw [List.getElem?_eq_getElem h']
    unfold bt
    rw [dif_pos (by rw [Int.toNat_natCast]; exact hi)]
    constructor
    · intro e
      have e := Option.some.inj e
      have : s.data.toList[i] = s[((i : Int)).toNat]'(by rw [Int.toNat_natCast]; exact hi) := by simp; rfl
      rw [← this, e]; rfl
    · intro e
      have : s.data.toList[i] = s[((i : Int)).toNat]'(by rw [Int.toNat_natCast]; exact hi) := by simp; rfl
      rw [this]
      congr 1
      apply UInt8.toNat_inj.1
      have : (s[((i : Int)).toNat]'(by rw [Int.toNat_natCast]; exact hi)).toNat = 0 := by exact_mod_cast e
      rw [this]; rfl
  constructor
  · intro h i hi e
    have hm : Lib.indexByte s.data.toList 0 = -1 := by omega
    exact Lib.indexByte_none hm i ((hget i hi).2 e)
  · intro h
    by_cases hge : Lib.indexByte s.data.toList 0 < 0
    · exact hge
    · exfalso
      obtain ⟨o, ho⟩ : ∃ o : Nat, Lib.indexByte s.data.toList 0 = o := ⟨(Lib.indexByte s.data.toList 0).toNat, by omega⟩
      have h1 := (Lib.indexByte_some ho).1
      have h2 : o < s.size := by
        rcases Nat.lt_or_ge o s.size with z | z
        · exact z
        · rw [List.getElem?_eq_none (by omega)] at h1; cases h1
      exact h o h2 ((hget o h2).1 h1)
theorem Detect.count (s : ByteArray) (hs : s.size ≤ 65536) (d : Nat) : ∀ (k i : Nat), i ≤ s.size → s.size - i = d → d < k →
    impl_Detect.l1 k s ((spec_Detect.zs s i).1 - (spec_Detect.zs s i).2) (s.size : Int) (i : Int) = some (if (spec_Detect.zs s s.size).1 > (spec_Detect.zs s s.size).2 then 2 else if (spec_Detect.zs s s.size).1 < (spec_Detect.zs s s.size).2 then 3 else 0) := by
  induction d with
  | zero =>
    intro k i h1 h2 h3
    obtain ⟨k, rfl⟩ : ∃ m, k = m + 1 := ⟨k - 1, by omega⟩
    obtain rfl : i = s.size := by omega
    rw [impl_Detect.l1, if_neg (by omega)]
    obtain ⟨Z, hZ⟩ : ∃ Z, spec_Detect.zs s s.size = Z := ⟨_, rfl⟩
    rw [hZ]
    by_cases a : Z.1 > Z.2
    · rw [if_pos (by omega), if_pos a]
    · rw [if_neg (by omega), if_neg a]
      by_cases b : Z.1 < Z.2
      · rw [if_pos (by omega), if_pos b]
      · rw [if_neg (by omega), if_neg b]
  | succ d ih =>
    intro k i h1 h2 h3
    obtain ⟨k, rfl⟩ : ∃ m, k = m + 1 := ⟨k - 1, by omega⟩
    have hih := ih k (i + 1) (by omega) (by omega) (by omega)
    have hb := spec_Detect.zs_bound s i
    have hw : wrap64 ((i : Int) + 1) = ((i + 1 : Nat) : Int) := by unfold wrap64; omega
    rw [impl_Detect.l1, if_pos (by omega), if_pos (by omega), if_pos (by omega), hw]
    simp only [spec_Detect.zs] at hih
    by_cases c : bt s (i : Int) = 0
    · have hm : Int.tmod (i : Int) 2 = ((i % 2 : Nat) : Int) := by rw [Int.tmod_eq_emod_of_nonneg (by omega)]; omega
      have w1 : wrap64 (2 * ((i % 2 : Nat) : Int)) = 2 * ((i % 2 : Nat) : Int) := by unfold wrap64; omega
      have w2 : wrap64 (1 - 2 * ((i % 2 : Nat) : Int)) = 1 - 2 * ((i % 2 : Nat) : Int) := by unfold wrap64; omega
      rw [if_pos c, hm, w1, w2]
      rw [if_pos c] at hih
      obtain ⟨Z, hZ⟩ : ∃ Z, spec_Detect.zs s i = Z := ⟨_, rfl⟩
      rw [hZ] at hih hb ⊢
      have w3 : wrap64 (Z.1 - Z.2 + (1 - 2 * ((i % 2 : Nat) : Int))) = Z.1 - Z.2 + (1 - 2 * ((i % 2 : Nat) : Int)) := by unfold wrap64; omega
      rw [w3]
      clear w1 w2 w3 hw hm
      by_cases p : i % 2 = 0
      · rw [if_pos p] at hih
        rw [p, show Z.1 - Z.2 + (1 - 2 * ((0 : Nat) : Int)) = Z.1 + 1 - Z.2 by omega]
        exact hih
      · have p1 : i % 2 = 1 := by omega
        rw [if_neg p] at hih
        rw [p1, show Z.1 - Z.2 + (1 - 2 * ((1 : Nat) : Int)) = Z.1 - (Z.2 + 1) by omega]
        exact hih
    · rw [if_neg c]
      rw [if_neg c] at hih
      exact hih
theorem Detect.same (s : ByteArray) (hm : s.size ≤ 1099511627776) : impl_Detect.f (s.size + 9) s = some (spec_Detect.g s) := by
  unfold impl_Detect.f impl_long.f spec_Detect.g
  simp only [Option.bind_some]
  by_cases c : s.size > 65536
  · rw [if_pos (show decide ((s.size : Int) > 65536) = true by rw [decide_eq_true_eq]; omega), if_pos c]
  · rw [if_neg (show ¬ decide ((s.size : Int) > 65536) = true by rw [decide_eq_true_eq]; omega), if_neg c]
    simp only [List.length_cons, List.length_nil]
    have w1 : wrap64 (0 + 1) = 1 := by unfold wrap64; omega
    have w2 : wrap64 (1 + 1) = 2 := by unfold wrap64; omega
    have w3 : wrap64 (2 + 1) = 3 := by unfold wrap64; omega
    have w4 : wrap64 (3 + 1) = 4 := by unfold wrap64; omega
    have w5 : wrap64 (4 + 1) = 5 := by unfold wrap64; omega
    have hend : (if decide ((spec_Detect.zs s s.size).1 + (spec_Detect.zs s s.size).2 = 0) = true then impl_Detect.j1 (s.size + 3) s (Lib.validD s.data.toList) else impl_Detect.j1 (s.size + 3) s false) = some (spec_Detect.end_ s) := by
      have hv : Lib.validD s.data.toList = decide ((YtphjfenhnhfakaaDoorDec.dall 1 true (bytesOf s) 0).2.1.length = 0) := Detect.valid _ s.data.toList 0 (Nat.le_refl _)
      have hcount := Detect.count s (by omega) s.size (s.size + 2) 0 (Nat.zero_le _) rfl (by omega)
      have hj : impl_Detect.j1 (s.size + 3) s false = some (if s.size % 2 = 0 ∧ (spec_Detect.zs s s.size).1 > (spec_Detect.zs s s.size).2 then 2 else if s.size % 2 = 0 ∧ (spec_Detect.zs s s.size).1 < (spec_Detect.zs s s.size).2 then 3 else 0) := by
        rw [impl_Detect.j1, if_neg (by decide)]
        by_cases e : s.size % 2 = 0
        · rw [if_pos (by omega)]
          refine hcount.trans ?_
          congr 1
          obtain ⟨Z, hZ⟩ : ∃ Z, spec_Detect.zs s s.size = Z := ⟨_, rfl⟩
          rw [hZ]
          by_cases a : Z.1 > Z.2
          · rw [if_pos a, if_pos (show s.size % 2 = 0 ∧ Z.1 > Z.2 from ⟨e, a⟩)]
          · rw [if_neg a, if_neg (show ¬ (s.size % 2 = 0 ∧ Z.1 > Z.2) from fun z => a z.2)]
            by_cases b : Z.1 < Z.2
            · rw [if_pos b, if_pos (show s.size % 2 = 0 ∧ Z.1 < Z.2 from ⟨e, b⟩)]
            · rw [if_neg b, if_neg (show ¬ (s.size % 2 = 0 ∧ Z.1 < Z.2) from fun z => b z.2)]
        · rw [if_neg (by omega), if_neg (fun z => e z.1), if_neg (fun z => e z.1)]
      rw [hv]
      unfold spec_Detect.end_
      by_cases a : (spec_Detect.zs s s.size).1 + (spec_Detect.zs s s.size).2 = 0
      · rw [if_pos (decide_eq_true a)]
        by_cases b : (YtphjfenhnhfakaaDoorDec.dall 1 true (bytesOf s) 0).2.1.length = 0
        · rw [decide_eq_true b, impl_Detect.j1, if_pos rfl, if_pos ⟨a, b⟩]
        · rw [decide_eq_false b, hj, if_neg (show ¬ (_ ∧ _) from fun z => b z.2)]
      · rw [if_neg (by simpa using a), hj, if_neg (show ¬ (_ ∧ _) from fun z => a z.1)]
    have hfin : ((impl_well.f s).bind fun t110 => (if t110 = true then ((strings_IndexByte.f s 0).bind fun t111 => (impl_Detect.j1 (s.size + 3) s (decide (t111 < 0)))) else (impl_Detect.j1 (s.size + 3) s false))) = some (spec_Detect.end_ s) := by
      rw [← hend]
      unfold impl_well.f utf8_ValidString.f strings_IndexByte.f
      rw [if_pos (by omega)]
      simp only [Option.bind_some]
      have hi := Detect.index s
      rw [show (0 : Int).toNat.toUInt8 = 0 from rfl, hi]
      cases Lib.validD s.data.toList <;> cases decide ((spec_Detect.zs s s.size).1 + (spec_Detect.zs s s.size).2 = 0) <;> rfl
    have r0 : ∀ l : List S50, rd_T50 l 0 = l.getD 0 z50 := fun _ => rfl
    have r1 : ∀ l : List S50, rd_T50 l 1 = l.getD 1 z50 := fun _ => rfl
    have r2 : ∀ l : List S50, rd_T50 l 2 = l.getD 2 z50 := fun _ => rfl
    have r3 : ∀ l : List S50, rd_T50 l 3 = l.getD 3 z50 := fun _ => rfl
    have r4 : ∀ l : List S50, rd_T50 l 4 = l.getD 4 z50 := fun _ => rfl
    rw [show s.size + 9 = s.size + 3 + 1 + 1 + 1 + 1 + 1 + 1 from rfl]
    rw [impl_Detect.l0, if_pos (by simp), if_pos (by omega), if_pos (by simp), r0, w1]
    simp only [List.getD_cons_zero]
    rw [Detect.pre]
    simp only [Option.bind_some]
    by_cases b1 : spec_Detect.b s ⟨#[239, 187, 191]⟩ = true
    · rw [if_pos b1, if_pos b1]
    · rw [if_neg b1, if_neg b1, impl_Detect.l0, if_pos (by simp), if_pos (by omega), if_pos (by simp), r1, w2]
      simp only [List.getD_cons_zero, List.getD_cons_succ]
      rw [Detect.pre]
      simp only [Option.bind_some]
      by_cases b2 : spec_Detect.b s ⟨#[255, 254, 0, 0]⟩ = true
      · rw [if_pos b2, if_pos b2]
      · rw [if_neg b2, if_neg b2, impl_Detect.l0, if_pos (by simp), if_pos (by omega), if_pos (by simp), r2, w3]
        simp only [List.getD_cons_zero, List.getD_cons_succ]
        rw [Detect.pre]
        simp only [Option.bind_some]
        by_cases b3 : spec_Detect.b s ⟨#[0, 0, 254, 255]⟩ = true
        · rw [if_pos b3, if_pos b3]
        · rw [if_neg b3, if_neg b3, impl_Detect.l0, if_pos (by simp), if_pos (by omega), if_pos (by simp), r3, w4]
          simp only [List.getD_cons_zero, List.getD_cons_succ]
          rw [Detect.pre]
          simp only [Option.bind_some]
          by_cases b4 : spec_Detect.b s ⟨#[254, 255]⟩ = true
          · rw [if_pos b4, if_pos b4]
          · rw [if_neg b4, if_neg b4, impl_Detect.l0, if_pos (by simp), if_pos (by omega), if_pos (by simp), r4, w5]
            simp only [List.getD_cons_zero, List.getD_cons_succ]
            rw [Detect.pre]
            simp only [Option.bind_some]
            by_cases b5 : spec_Detect.b s ⟨#[255, 254]⟩ = true
            · rw [if_pos b5, if_pos b5]
            · rw [if_neg b5, if_neg b5, impl_Detect.l0, if_neg (by simp)]
              exact hfin
theorem FnExactDetect : laws_FnExactDetect.Pure := by
  intro a0 hm
  refine ⟨a0.size + 9, ?_⟩
  unfold laws_FnExactDetect.f
  by_cases big : (a0.size : Int) > 1048576
  · rw [if_pos big]
  · rw [if_neg big]
    unfold spec_Detect.f
    rw [if_pos (by omega), Detect.same a0 (by omega)]
    simp

end Go.Proofs.YtphjfenhnhfakaaDoor.Pure
