/- The law FnExactSentenceCuts: at every input the call answers true (this text: contracts on its way, by a program of this session's; no condition of ours). -/
import Derived.Test.YtiabgmddnddeiaaDoorQFnExactSentenceCutsx0
import Derived.Test.YtiabgmddnddeiaaDoorQFnExactSentenceCutsx1
namespace Go.Proofs.YtiabgmddnddeiaaDoor.QFnExactSentenceCuts
open Go.RowKit Go.Proofs.YtiabgmddnddeiaaDoorW.PrintWords Go.Proofs.YtiabgmddnddeiaaDoorW.PrintLast Go.Proofs.YtiabgmddnddeiaaDoorW.PrintMore
attribute [local go_sem] max2_int min2_int max_two min_two max_three min_three max_four min_four   -- for this text's walks alone
set_option linter.unusedVariables false
set_option linter.unusedSimpArgs false

/-! ### impl_long: function 86 -/
def impl_long.f (a0 : ByteArray) : Option (Bool) := some (decide ((a0.size : Int) > 65536))
set_option maxHeartbeats 8000000 in
set_option maxRecDepth 100000 in
theorem impl_long.calls (a0 : ByteArray) (r : Bool) (w : World) (h : impl_long.f a0 = some r) :
    Calls Tryd.prog 86 #[.string a0] w fun e w' => e = .returned (.bool r) ∧ Drawn0 w w' := by
  have H : (some (decide ((a0.size : Int) > 65536))) = some r := h
  clear h
  obtain rfl := Option.some.inj H
  go_enter Tryd.func86, Tryd.ntmps86
  go_wp2
  go_ret
  exact ⟨by first | rfl | (simp; done) | (simp [*]; done), by repeat (first | exact Drawn0.refl _ | apply Drawn0.step)⟩

/-- The tables of unicode/utf8 lie in this world as start-up lays them. -/
def GT (w : World) : Prop := Lib.Utf8Tabs 1 2 w
theorem GT.below {w w' : World} (h : GT w) (hb : Below w.heap.size w w') : GT w' := by
  obtain ⟨h1, h2⟩ := h
  refine ⟨fun c hc => ?_, fun i hi => ⟨?_, ?_⟩⟩
  · exact (hb.cell (World.block_lt_of_cell? w _ (h1 c hc))).trans (h1 c hc)
  · exact (hb.cell (World.block_lt_of_cell? w _ (h2 i hi).1)).trans (h2 i hi).1
  · exact (hb.cell (World.block_lt_of_cell? w _ (h2 i hi).2)).trans (h2 i hi).2
theorem gtA {W : World} (h : GT W := by first | exact HG.out | exact GT.below HG.out (by first | exact HB.out | (repeat (first | (with_reducible first | exact HB.out | apply below_alloc | apply pw_below_drewN | apply below_drew1 | refine below_set ?_ (Aside0.out (by assumption))) | exact HB.out))) | exact GT.below HG.out (HB.out)) : GT W := h

/-! ### utf8_DecodeRuneInString: function 189 (by hand) -/
def utf8_DecodeRuneInString.f (a0 : ByteArray) : Option (Int × Int) := some (((Lib.decodeGo a0).1 : Int), ((Lib.decodeGo a0).2 : Int))
theorem utf8_DecodeRuneInString.calls (a0 : ByteArray) (r1 : Int) (r2 : Int) (w : World) (h : utf8_DecodeRuneInString.f a0 = some (r1, r2)) (hG : GT w) :
    Calls Tryd.prog 189 #[.string a0] w fun e w' => e = .returned (.tuple #[.int .i32 r1, .int .i64 r2]) ∧ Below w.heap.size w w' := by
  have h := Option.some.inj h
  obtain ⟨rfl, rfl⟩ := Prod.mk.inj h
  exact Tryd.utf8_DecodeRuneInString a0 w hG

/-! ### impl_read: function 113 -/
def impl_read.l0 : Nat → ByteArray → List (S121) → Int → Option ((List (S121)))
 | 0, _, _, _ => none
 | k + 1, x0, x3, x4 => if x4 < (x0.size : Int) then (if 0 ≤ x4 then (if x4 ≤ (x0.size : Int) then ((utf8_DecodeRuneInString.f (x0.extract (x4 : Int).toNat x0.size)).bind fun bt231 => (if bt231.1 = 65533 then (if x3.length < 4398046511104 then (impl_read.l0 k x0 (x3 ++ [(⟨wrap64 (bt231.1), x4, wrap64 (x4 + bt231.2), (bt231.2 == 1)⟩ : S121)]) (wrap64 (x4 + bt231.2))) else (none)) else (if x3.length < 4398046511104 then (impl_read.l0 k x0 (x3 ++ [(⟨wrap64 (bt231.1), x4, wrap64 (x4 + bt231.2),false⟩ : S121)]) (wrap64 (x4 + bt231.2))) else (none)))) else (none)) else (none)) else (some x3)
def impl_read.f (k : Nat) (a0 : ByteArray) : Option ((List (S121))) := impl_read.l0 k a0 ([] : List (S121)) 0
theorem impl_read.mono_l : ∀ k, (∀ y0 y1 y2, LeO (impl_read.l0 k y0 y1 y2) (impl_read.l0 (k + 1) y0 y1 y2))
 | 0 => fun _ _ _ r h => by simp [impl_read.l0] at h
 | k + 1 => by
  have ih0 := impl_read.mono_l k; intro y0 y1 y2
  unfold impl_read.l0
  repeat' first
  | (with_reducible exact ih0 _ _ _)
  | (with_reducible exact LeO.refl _)
  | (with_reducible exact LeO.none _)
  | (with_reducible refine LeO.ite ?_ ?_)
  | (with_reducible refine LeO.bind ?_ (fun _ => ?_))
  | exact ih0 _ _ _
  | exact LeO.none _
  | refine LeO.ite ?_ ?_
  | refine LeO.bind ?_ (fun _ => ?_)
theorem impl_read.mono : ∀ a0 k, LeO (impl_read.f k a0) (impl_read.f (k + 1) a0) := by
 intro a0 k
 have ih0 := impl_read.mono_l k
 unfold impl_read.f
 repeat' first
   | (with_reducible exact ih0 _ _ _)
   | (with_reducible exact LeO.refl _)
   | (with_reducible exact LeO.none _)
   | (with_reducible refine LeO.ite ?_ ?_)
   | (with_reducible refine LeO.bind ?_ (fun _ => ?_))
   | exact ih0 _ _ _
   | exact LeO.none _
   | refine LeO.ite ?_ ?_
   | refine LeO.bind ?_ (fun _ => ?_)
set_option maxHeartbeats 8000000 in
set_option maxRecDepth 100000 in
theorem impl_read.calls (k : Nat) (a0 : ByteArray) (r : List (S121)) (w : World) (h : impl_read.f k a0 = some r) (hG : GT w) :
  Calls Tryd.prog 113 #[.string a0] w fun e w' => ∃ v0_ : Value, e = .returned (v0_) ∧ Kd.R k121 121 w' w.heap.size (fun _ => True) v0_ r ∧ Below w.heap.size w w' := by
 have HG := Aside0.mk hG
 clear hG
 have hu121 := Tryd.underlying121
 have HB := Aside0.mk (Below.refl w.heap.size w)
 have H : (impl_read.l0 k a0 ([] : List (S121)) 0) = some r := h
 clear h
 have H' := Aside0.mk H
 clear H
 go_enter Tryd.func113, Tryd.ntmps113
 go_wp2
 go_loopg [3, 4] k (fun kq v3 v4 w' => ∃ (x3_1 : List (S121)) (x4_1 : Int), v4 = .int .i64 x4_1 ∧ Aside0 (impl_read.l0 kq a0 x3_1 x4_1 = some r) ∧ Aside0 (kq ≤ k) ∧ Aside0 (Kd.R k121 121 w' w.heap.size (fun _ => True) v3 x3_1) ∧ Aside0 (Below w.heap.size w w'))
 case atStart => exact ⟨(([] : List (S121))), (0), (by first | rfl | (simp; done) | (simp [*]; done)), H', ⟨Nat.le_refl _⟩, ⟨by first | exact Kd.R_nil _ _ _ _ _ | exact Kd.N_nil _ _ _ _ _ | exact Kd.V_nil _ _ _ _ _ | exact Kd.Q_nil _ _ _ _ _ | exact Kd.S_nil _ _ _ _ _⟩, ⟨belowA⟩⟩
 case round =>
  clear H'
  try clear c1
  obtain ⟨x3_1, x4_1, rfl, HA, HK1, HO_3, HB⟩ := hrel
  cases gk with
  | zero => exact absurd HA.out (by simp [impl_read.l0])
  | succ k1 =>
   have H := HA.out; clear HA; simp only [impl_read.l0] at H
   by_cases c2 : x4_1 < (a0.size : Int)
   ·rw [if_pos c2] at H
    have c2b0 : decide (x4_1 < (a0.size : Int)) = true := decide_eq_true c2; clear c2
    by_cases c3 : 0 ≤ x4_1
    ·rw [if_pos c3] at H
     have c3b0 := eq_true c3; have c3b1 : decide (0 ≤ x4_1) = true := decide_eq_true c3; clear c3
     by_cases c4 : x4_1 ≤ (a0.size : Int)
     ·rw [if_pos c4] at H
      have c4b0 := eq_true c4; have c4b1 : decide (x4_1 ≤ (a0.size : Int)) = true := decide_eq_true c4; clear c4; replace H := Option.bind_eq_some_iff.mp H; obtain ⟨⟨t231, t232⟩, A50, H⟩ := H
      try dsimp only at H
      have A5 := Aside0.mk A50; clear A50
      by_cases c6 : t231 = 65533
      ·rw [if_pos c6] at H
       have c6b0 : (t231 == 65533) = true := beq_iff_eq.mpr c6; have c6b1 : (t231 != 65533) = false := bne_eq_false_iff_eq.mpr c6; clear c6
       by_cases c7 : x3_1.length < 4398046511104
       ·rw [if_pos c7] at H
        have LMc7 := Aside0.mk c7; clear c7; obtain ⟨y233, hy233⟩ : ∃ y_ : List (S121), y_ = (x3_1 ++ [(⟨wrap64 (t231), x4_1, wrap64 (x4_1 + t232), (t232 == 1)⟩ : S121)]) := ⟨_, rfl⟩
        replace H : (impl_read.l0 k1 a0 y233 (wrap64 (x4_1 + t232))) = some r := by first | (rw [hy233]; with_reducible exact H) | (have H2_ := (Option.bind_some _ _).symm.trans H; rw [hy233]; with_reducible exact H2_) | (have H2_ := (Option.bind_some _ _).symm.trans H; with_reducible exact H2_) | with_reducible exact H | (rw [hy233]; exact H) | exact H
        have Ny233 := Aside0.mk hy233; clear hy233; have H' := Aside0.mk H; clear H
        go_wp2_with (first | ((with_reducible refine gate_callee (f := 189) rfl ?_); refine goesL_ (some 16) rfl rfl Tryd.func189 (by kernel_rfl) rfl #[.string (a0.extract (x4_1 : Int).toNat a0.size)] rfl (by (try simp only [List.map_toArray, List.map_cons, List.map_nil]); first | done | rfl) ?_; (with_reducible refine (utf8_DecodeRuneInString.calls (a0.extract (x4_1 : Int).toNat a0.size) t231 t232 _ A5.out (by first | exact HG.out | exact GT.below HG.out (by first | exact HB.out | (repeat (first | (with_reducible first | exact HB.out | apply below_alloc | apply pw_below_drewN | apply below_drew1 | refine below_set ?_ (Aside0.out (by assumption))) | exact HB.out))) | exact GT.below HG.out (HB.out))).mono ?_); rintro e w8 ⟨rfl, hb⟩; refine ⟨_, rfl, ?_⟩; have n0_ := Aside0.mk (Kd.R_below (by (with_reducible repeat (first | apply Kd.R_alloc | apply Kd.R_drewN | apply Kd.R_drew)); exact HO_3.out) hb); have n1_ := Aside0.mk (below_step (belowA) hb); clear HO_3; clear HB; have HO_3 := n0_; have HB := n1_; clear n0_ n1_; (try clear hb); (try clear hb2); (try clear hk); (try clear hi)) | ((with_reducible refine gate_builtin (b := .append) (xs := #[.tmp 25, .tmp 34]) rfl ?_); at_builtin; refine Kd.R_append k121 (w0 := w) w.heap.size rfl (.tmp 25) (.tmp 34) 94 121 (.agg #[(.int .i64 0), (.int .i64 0), (.int .i64 0), (.bool false)]) 32 rfl Tryd.underlying94 info121 rfl (by decide) (by omega) u3 x3_1 (⟨wrap64 (t231), x4_1, wrap64 (x4_1 + t232), (t232 == 1)⟩ : S121) [.int .i64 (wrap64 (t231)), .int .i64 x4_1, .int .i64 (wrap64 (x4_1 + t232)), .bool (t232 == 1)] (fun _ => True) (fun _ => False) rfl rfl ?aP (fun _ hk => hk.elim) ?aF ?aO ?aB ?aS ?aL ?_; (case aP => exact k121_mkM _ _ _ (⟨wrap64 (t231), x4_1, wrap64 (x4_1 + t232), (t232 == 1)⟩ : S121)); (case aB => exact (belowA)); (case aF => exact (fun _ _ => trivial)); (case aO => exact (by (with_reducible repeat (first | apply Kd.R_alloc | apply Kd.R_drewN | apply Kd.R_drew)); exact HO_3.out)); (case aS => exact (below_size (belowA))); (case aL => have := LMc7.out; omega); intro v234 w9 ho hb hg hat; rw [← Ny233.out] at ho; have n0_ := Aside0.mk (hb); have n1_ := Aside0.mk (ho); clear HB; clear HO_3; have HB := n0_; have HO235 := n1_; clear n0_ n1_; clear ho hb hg hat))
        go_roundg k1
        case measure => have := HK1.out; omega
        case rel => exact ⟨(y233), (wrap64 (x4_1 + t232)), (by first | rfl | (simp; done) | (simp [*]; done)), H', ⟨by have := HK1.out; omega⟩, ⟨by (with_reducible repeat (first | apply Kd.R_alloc | apply Kd.R_drewN | apply Kd.R_drew)); exact HO235.out⟩, ⟨belowA⟩⟩
       rw [if_neg c7] at H
       exact absurd H (by simp)
      rw [if_neg c6] at H; have c6b0 : (t231 == 65533) = false := beq_eq_false_iff_ne.mpr c6; have c6b1 : (t231 != 65533) = true := bne_iff_ne.mpr c6
      by_cases c10 : x3_1.length < 4398046511104
      ·rw [if_pos c10] at H
       have LMc10 := Aside0.mk c10; clear c10; obtain ⟨y236, hy236⟩ : ∃ y_ : List (S121), y_ = (x3_1 ++ [(⟨wrap64 (t231), x4_1, wrap64 (x4_1 + t232),false⟩ : S121)]) := ⟨_, rfl⟩
       replace H : (impl_read.l0 k1 a0 y236 (wrap64 (x4_1 + t232))) = some r := by first | (rw [hy236]; with_reducible exact H) | (have H2_ := (Option.bind_some _ _).symm.trans H; rw [hy236]; with_reducible exact H2_) | (have H2_ := (Option.bind_some _ _).symm.trans H; with_reducible exact H2_) | with_reducible exact H | (rw [hy236]; exact H) | exact H
       have Ny236 := Aside0.mk hy236; clear hy236; have H' := Aside0.mk H; clear H
       go_wp2_with (first | ((with_reducible refine gate_callee (f := 189) rfl ?_); refine goesL_ (some 16) rfl rfl Tryd.func189 (by kernel_rfl) rfl #[.string (a0.extract (x4_1 : Int).toNat a0.size)] rfl (by (try simp only [List.map_toArray, List.map_cons, List.map_nil]); first | done | rfl) ?_; (with_reducible refine (utf8_DecodeRuneInString.calls (a0.extract (x4_1 : Int).toNat a0.size) t231 t232 _ A5.out (by first | exact HG.out | exact GT.below HG.out (by first | exact HB.out | (repeat (first | (with_reducible first | exact HB.out | apply below_alloc | apply pw_below_drewN | apply below_drew1 | refine below_set ?_ (Aside0.out (by assumption))) | exact HB.out))) | exact GT.below HG.out (HB.out))).mono ?_); rintro e w11 ⟨rfl, hb⟩; refine ⟨_, rfl, ?_⟩; have n0_ := Aside0.mk (Kd.R_below (by (with_reducible repeat (first | apply Kd.R_alloc | apply Kd.R_drewN | apply Kd.R_drew)); exact HO_3.out) hb); have n1_ := Aside0.mk (below_step (belowA) hb); clear HO_3; clear HB; have HO_3 := n0_; have HB := n1_; clear n0_ n1_; (try clear hb); (try clear hb2); (try clear hk); (try clear hi)) | ((with_reducible refine gate_builtin (b := .append) (xs := #[.tmp 25, .tmp 34]) rfl ?_); at_builtin; refine Kd.R_append k121 (w0 := w) w.heap.size rfl (.tmp 25) (.tmp 34) 94 121 (.agg #[(.int .i64 0), (.int .i64 0), (.int .i64 0), (.bool false)]) 32 rfl Tryd.underlying94 info121 rfl (by decide) (by omega) u3 x3_1 (⟨wrap64 (t231), x4_1, wrap64 (x4_1 + t232),false⟩ : S121) [.int .i64 (wrap64 (t231)), .int .i64 x4_1, .int .i64 (wrap64 (x4_1 + t232)), .bool false] (fun _ => True) (fun _ => False) rfl rfl ?aP (fun _ hk => hk.elim) ?aF ?aO ?aB ?aS ?aL ?_; (case aP => exact k121_mkM _ _ _ (⟨wrap64 (t231), x4_1, wrap64 (x4_1 + t232),false⟩ : S121)); (case aB => exact (belowA)); (case aF => exact (fun _ _ => trivial)); (case aO => exact (by (with_reducible repeat (first | apply Kd.R_alloc | apply Kd.R_drewN | apply Kd.R_drew)); exact HO_3.out)); (case aS => exact (below_size (belowA))); (case aL => have := LMc10.out; omega); intro v237 w12 ho hb hg hat; rw [← Ny236.out] at ho; have n0_ := Aside0.mk (hb); have n1_ := Aside0.mk (ho); clear HB; clear HO_3; have HB := n0_; have HO238 := n1_; clear n0_ n1_; clear ho hb hg hat))
       go_roundg k1
       case measure => have := HK1.out; omega
       case rel => exact ⟨(y236), (wrap64 (x4_1 + t232)), (by first | rfl | (simp; done) | (simp [*]; done)), H', ⟨by have := HK1.out; omega⟩, ⟨by (with_reducible repeat (first | apply Kd.R_alloc | apply Kd.R_drewN | apply Kd.R_drew)); exact HO238.out⟩, ⟨belowA⟩⟩
      rw [if_neg c10] at H
      exact absurd H (by simp)
     rw [if_neg c4] at H
     exact absurd H (by simp)
    rw [if_neg c3] at H
    exact absurd H (by simp)
   rw [if_neg c2] at H; have c2b0 : decide (x4_1 < (a0.size : Int)) = false := decide_eq_false c2; clear c2; obtain rfl := Option.some.inj H
   go_wp2
   go_ret
   exact ⟨_, by first | rfl | (simp [errW_none, errW_some] <;> rfl) | (simp [*, errW_none, errW_some] <;> rfl), by (with_reducible repeat (first | apply Kd.R_alloc | apply Kd.R_drewN | apply Kd.R_drew)); exact HO_3.out, belowA⟩

def impl_read.mk (x : Int × Int × Int × Bool) : S121 := ⟨x.1, x.2.1, x.2.2.1, x.2.2.2⟩
def W_impl_read.f (a0 : ByteArray) : Option (List (S121)) := if a0.size ≤ 1099511627776 then some ((YtiabgmddnddeiaaDoorDec.reads (bytesOf a0)).map impl_read.mk) else none
theorem impl_read.decodeGo (s : ByteArray) (i : Nat) (h : i < s.size) : (((Lib.decodeGo (s.extract i s.size)).1 : Int), (Lib.decodeGo (s.extract i s.size)).2) = YtiabgmddnddeiaaDoorPts.dec ((bytesOf s).drop i) := by
  have hz : (s.extract i s.size).size = s.size - i := by simp
  unfold Lib.decodeGo
  rw [if_neg (by omega), YtiabgmddnddeiaaDoorPts.decode_dec, List.drop_zero]
  have e : bytesOf (s.extract i s.size) = (bytesOf s).drop i := by
    unfold bytesOf
    rw [← List.map_drop]
    congr 1
    simp only [ByteArray.data_extract, Array.toList_extract, List.extract_eq_take_drop]
    exact List.take_of_length_le (by rw [List.length_drop, data_length]; omega)
  rw [e]
theorem impl_read.run (s : ByteArray) (hs : s.size ≤ 1099511627776) (d : Nat) : ∀ (k i : Nat) (acc : List (S121)), i ≤ s.size → s.size - i ≤ d → d < k → acc.length + (s.size - i) ≤ 1099511627776 →
    impl_read.l0 k s acc (i : Int) = some (acc ++ (YtiabgmddnddeiaaDoorDec.readsAt ((bytesOf s).drop i) (i : Int)).map impl_read.mk) := by
  induction d with
  | zero =>
    intro k i acc h1 h2 h3 h4
    obtain ⟨k, rfl⟩ : ∃ m, k = m + 1 := ⟨k - 1, by omega⟩
    simp only [impl_read.l0]
    rw [if_neg (by omega), List.drop_eq_nil_of_le (by rw [bytesOf_length]; omega)]
    simp [YtiabgmddnddeiaaDoorDec.readsAt, YtiabgmddnddeiaaDoorDec.readsF]
  | succ d ih =>
    intro k i acc h1 h2 h3 h4
    obtain ⟨k, rfl⟩ : ∃ m, k = m + 1 := ⟨k - 1, by omega⟩
    simp only [impl_read.l0]
    by_cases hlt : i < s.size
    · rw [if_pos (by omega), if_pos (by omega), if_pos (by omega)]
      unfold utf8_DecodeRuneInString.f
      simp only [Option.bind_some, Int.toNat_natCast]
      have hne : (bytesOf s).drop i ≠ [] := by intro h; have := congrArg List.length h; rw [List.length_drop, bytesOf_length] at this; simp at this; omega
      have hb := YtiabgmddnddeiaaDoorPts.dec_bound hne
      rw [List.length_drop, bytesOf_length] at hb
      have hg := impl_read.decodeGo s i hlt
      have e1 := congrArg Prod.fst hg
      have e2 := congrArg Prod.snd hg
      simp only [] at e1 e2
      have hcons := YtiabgmddnddeiaaDoorDec.readsAt_cons hne (i : Int)
      obtain ⟨q, hq⟩ : ∃ q, YtiabgmddnddeiaaDoorPts.dec ((bytesOf s).drop i) = q := ⟨_, rfl⟩
      rw [hq] at e1 e2 hb hcons
      rw [e1, e2, hcons]
      have hp := hb.2.2.2
      have hw0 : wrap64 q.1 = q.1 := by unfold YtiabgmddnddeiaaDoorPts.isP at hp; unfold wrap64; omega
      have hw1 : wrap64 ((i : Int) + (q.2 : Int)) = ((i + q.2 : Nat) : Int) := by unfold wrap64; omega
      have hw2 : (i : Int) + (q.2 : Int) = ((i + q.2 : Nat) : Int) := by omega
      rw [hw0, hw1, hw2, List.drop_drop]
      clear hw0 hw1 hw2 hg e1 e2 hcons hq
      have go : ∀ b : Bool, b = decide (q.1 = 65533 ∧ q.2 = 1) → impl_read.l0 k s (acc ++ [(⟨q.1, (i : Int), ((i + q.2 : Nat) : Int), b⟩ : S121)]) ((i + q.2 : Nat) : Int) = some (acc ++ ((q.1, (i : Int), ((i + q.2 : Nat) : Int), decide (q.1 = 65533 ∧ q.2 = 1)) :: YtiabgmddnddeiaaDoorDec.readsAt ((bytesOf s).drop (i + q.2)) ((i + q.2 : Nat) : Int)).map impl_read.mk) := by
        intro b hbq
        rw [ih k (i + q.2) _ (by omega) (by omega) (by omega) (by rw [List.length_append]; simp only [List.length_cons, List.length_nil]; omega), hbq, List.map_cons, List.append_assoc]
        rfl
      by_cases c : q.1 = 65533
      · rw [if_pos c, if_pos (by omega)]
        refine go _ ?_
        by_cases c2 : q.2 = 1
        · rw [decide_eq_true ⟨c, c2⟩, beq_iff_eq]; omega
        · rw [decide_eq_false (fun z => c2 z.2), beq_eq_false_iff_ne]; omega
      · rw [if_neg c, if_pos (by omega)]
        exact go _ (by rw [decide_eq_false (fun z => c z.1)])
    · rw [if_neg (by omega), List.drop_eq_nil_of_le (by rw [bytesOf_length]; omega)]
      simp [YtiabgmddnddeiaaDoorDec.readsAt, YtiabgmddnddeiaaDoorDec.readsF]
theorem W_impl_read.to {a0 : ByteArray} {r : List (S121)} (h : W_impl_read.f a0 = some r) : ∃ k, impl_read.f k a0 = some r := by
  unfold W_impl_read.f at h
  split at h
  · rename_i hs
    refine ⟨a0.size + 1, ?_⟩
    rw [← h]
    unfold impl_read.f
    have := impl_read.run a0 hs a0.size (a0.size + 1) 0 [] (by omega) (by omega) (by omega) (by simp; omega)
    rw [List.drop_zero, List.nil_append] at this
    exact this
  · cases h
theorem W_impl_read.calls (a0 : ByteArray) (r : List (S121)) (w : World) (h : W_impl_read.f a0 = some r) (hG : GT w) :
    Calls Tryd.prog 113 #[.string a0] w fun e w' => ∃ v0_ : Value, e = .returned (v0_) ∧ Kd.R k121 121 w' w.heap.size (fun _ => True) v0_ r ∧ Below w.heap.size w w' := by
  obtain ⟨k, hk⟩ := W_impl_read.to h
  exact impl_read.calls k a0 r w hk hG

/-! ### impl_onlyPoints: function 114 -/
def impl_onlyPoints.l0 : Nat → List Int → List (S121) → Int → Int → Option (List Int)
 | 0, _, _, _, _ => none
 | k + 1, x3, x9, x10, x11 => if x11 < x10 then (if 0 ≤ x11 then (if x11 < (x9.length : Int) then (if x11 < (x3.length : Int) then (impl_onlyPoints.l0 k (x3.set (x11 : Int).toNat ((rd_T121 x9 x11).f0)) x9 x10 (wrap64 (x11 + 1))) else (none)) else (none)) else (none)) else (some x3)
def impl_onlyPoints.f (k : Nat) (l0 : List (S121)) : Option (List Int) := if 0 ≤ (l0.length : Int) then (if ((l0.length : Int) : Int).toNat ≤ 35184372088832 then (impl_onlyPoints.l0 k (List.replicate ((l0.length : Int) : Int).toNat 0) l0 (l0.length : Int) 0) else (none)) else (none)
theorem impl_onlyPoints.mono_l : ∀ k, (∀ y0 y1 y2 y3, LeO (impl_onlyPoints.l0 k y0 y1 y2 y3) (impl_onlyPoints.l0 (k + 1) y0 y1 y2 y3))
 | 0 => fun _ _ _ _ r h => by simp [impl_onlyPoints.l0] at h
 | k + 1 => by
  have ih0 := impl_onlyPoints.mono_l k; intro y0 y1 y2 y3
  unfold impl_onlyPoints.l0
  repeat' first
  | (with_reducible exact ih0 _ _ _ _)
  | (with_reducible exact LeO.refl _)
  | (with_reducible exact LeO.none _)
  | (with_reducible refine LeO.ite ?_ ?_)
  | (with_reducible refine LeO.bind ?_ (fun _ => ?_))
  | exact ih0 _ _ _ _
  | exact LeO.none _
  | refine LeO.ite ?_ ?_
  | refine LeO.bind ?_ (fun _ => ?_)
theorem impl_onlyPoints.mono : ∀ a0 k, LeO (impl_onlyPoints.f k a0) (impl_onlyPoints.f (k + 1) a0) := by
 intro a0 k
 have ih0 := impl_onlyPoints.mono_l k
 unfold impl_onlyPoints.f
 repeat' first
   | (with_reducible exact ih0 _ _ _ _)
   | (with_reducible exact LeO.refl _)
   | (with_reducible exact LeO.none _)
   | (with_reducible refine LeO.ite ?_ ?_)
   | (with_reducible refine LeO.bind ?_ (fun _ => ?_))
   | exact ih0 _ _ _ _
   | exact LeO.none _
   | refine LeO.ite ?_ ?_
   | refine LeO.bind ?_ (fun _ => ?_)
set_option maxHeartbeats 8000000 in
set_option maxRecDepth 100000 in
theorem impl_onlyPoints.calls (k : Nat) (A0 : Option Addr) (c0 : Nat) (l0 : List (S121)) (r : List Int) (w : World) (hr0 : Kd.C k121 w A0 l0.length l0) (hc0 : l0.length ≤ c0) (h : impl_onlyPoints.f k l0 = some r) :
  Calls Tryd.prog 114 #[.slice A0 l0.length c0] w fun e w' => ∃ v0_ : Value, e = .returned (v0_) ∧ Kd.R (Kd.int .i64) 2 w' w.heap.size (fun _ => True) v0_ r ∧ Below w.heap.size w w' := by
 have hu121 := Tryd.underlying121
 have HR0 := Aside0.mk hr0
 have HC0 := Aside0.mk hc0
 clear hr0 hc0
 have HB := Aside0.mk (Below.refl w.heap.size w)
 have H : (if 0 ≤ (l0.length : Int) then (if ((l0.length : Int) : Int).toNat ≤ 35184372088832 then (impl_onlyPoints.l0 k (List.replicate ((l0.length : Int) : Int).toNat 0) l0 (l0.length : Int) 0) else (none)) else (none)) = some r := h
 clear h
 by_cases c2 : 0 ≤ (l0.length : Int)
 ·rw [if_pos c2] at H
  have c2b0 := eq_true c2; have c2b1 : decide (0 ≤ (l0.length : Int)) = true := decide_eq_true c2; clear c2
  by_cases c3 : ((l0.length : Int) : Int).toNat ≤ 35184372088832
  ·rw [if_pos c3] at H
   have c3b0 := eq_true c3; have c3b1 : decide (((l0.length : Int) : Int).toNat ≤ 35184372088832) = true := decide_eq_true c3; clear c3; obtain ⟨y239, hy239⟩ : ∃ y_ : List Int, y_ = (List.replicate ((l0.length : Int) : Int).toNat 0) := ⟨_, rfl⟩
   replace H : (impl_onlyPoints.l0 k y239 l0 (l0.length : Int) 0) = some r := by first | (rw [hy239]; with_reducible exact H) | (have H2_ := (Option.bind_some _ _).symm.trans H; rw [hy239]; with_reducible exact H2_) | (have H2_ := (Option.bind_some _ _).symm.trans H; with_reducible exact H2_) | with_reducible exact H | (rw [hy239]; exact H) | exact H
   have Ny239 := Aside0.mk hy239; clear hy239; have H' := Aside0.mk H; clear H
   go_enter Tryd.func114, Tryd.ntmps114
   go_wp2_with (first | ((with_reducible refine gate_dst (N := 8) rfl ?_); refine Kd.R_make (Kd.int .i64) _ 2 rfl (N := 8) rfl 28 _ _ rfl (l0.length : Int) rfl rfl Tryd.underlying28 (.int .i64 0) 8 info2 rfl (by decide) (by omega) 0 (ok := fun _ => True) (okp := fun _ => True) rfl (fun _ hk => hk) trivial (of_decide_eq_true (by first | (with_reducible assumption) | assumption)) (Nat.le_trans (Nat.mul_le_mul_right _ (of_decide_eq_true (by first | (with_reducible assumption) | assumption) : (l0.length : Int).toNat ≤ 35184372088832)) (by omega)) (Below.refl _ _) (Nat.le_refl _) ?_; intro v240 w4 ho5 hb hg_ hnew_; clear hg_ hnew_; (first | rw [← Ny239.out] at ho5 | (simp only [Int.reduceToNat] at ho5; rw [← Ny239.out] at ho5)); have n0_ := Aside0.mk (Kd.R_lower ho5 (below_size (belowA))); have n1_ := Aside0.mk (below_step (belowA) hb); clear HB; have HO241 := n0_; have HB := n1_; clear n0_ n1_; clear hb ho5))
   go_loopg [11] k (fun kq v11 w' => ∃ (x3_1 : List Int) (x11_1 : Int), v11 = .int .i64 x11_1 ∧ Aside0 (impl_onlyPoints.l0 kq x3_1 l0 (l0.length : Int) x11_1 = some r) ∧ Aside0 (kq ≤ k) ∧ Aside0 (Kd.R (Kd.int .i64) 2 w' w.heap.size (fun _ => True) v240 x3_1) ∧ Aside0 (Below w.heap.size w w'))
   case atStart => exact ⟨(y239), (0), (by first | rfl | (simp; done) | (simp [*]; done)), H', ⟨Nat.le_refl _⟩, ⟨by (with_reducible repeat (first | apply Kd.R_alloc | apply Kd.R_drewN | apply Kd.R_drew)); exact HO241.out⟩, ⟨belowA⟩⟩
   case round =>
    clear H'
    try clear c1; try clear c2; try clear c2b0; try clear c2b1; try clear p2; try clear c3; try clear c3b0; try clear c3b1
    obtain ⟨x3_1, x11_1, rfl, HA, HK1, HO_3, HB⟩ := hrel
    cases gk with
    | zero => exact absurd HA.out (by simp [impl_onlyPoints.l0])
    | succ k1 =>
     have H := HA.out; clear HA; simp only [impl_onlyPoints.l0] at H
     by_cases c6 : x11_1 < (l0.length : Int)
     ·rw [if_pos c6] at H
      have c6b0 : decide (x11_1 < (l0.length : Int)) = true := decide_eq_true c6; clear c6
      by_cases c7 : 0 ≤ x11_1
      ·rw [if_pos c7] at H
       have c7b0 : decide (0 ≤ x11_1) = true := decide_eq_true c7; clear c7
       by_cases c8 : x11_1 < (l0.length : Int)
       ·rw [if_pos c8] at H
        have c8b0 : decide (x11_1 < (l0.length : Int)) = true := decide_eq_true c8; clear c8
        by_cases c9 : x11_1 < (x3_1.length : Int)
        ·rw [if_pos c9] at H
         have c9b0 : decide (x11_1 < (x3_1.length : Int)) = true := decide_eq_true c9; clear c9; obtain ⟨y244, hy244⟩ : ∃ y_ : List Int, y_ = (x3_1.set (x11_1 : Int).toNat ((rd_T121 l0 x11_1).f0)) := ⟨_, rfl⟩
         replace H : (impl_onlyPoints.l0 k1 y244 l0 (l0.length : Int) (wrap64 (x11_1 + 1))) = some r := by first | (rw [hy244]; with_reducible exact H) | (have H2_ := (Option.bind_some _ _).symm.trans H; rw [hy244]; with_reducible exact H2_) | (have H2_ := (Option.bind_some _ _).symm.trans H; with_reducible exact H2_) | with_reducible exact H | (rw [hy244]; exact H) | exact H
         have Ny244 := Aside0.mk hy244; clear hy244; have H' := Aside0.mk H; clear H
         have p242 : 0 ≤ (x11_1 : Int) := of_decide_eq_true (by first | (with_reducible assumption) | assumption)
         have q242 : x11_1 < (l0.length : Int) := of_decide_eq_true (by first | (with_reducible assumption) | assumption)
         obtain ⟨ad242, e242, hx242_0, hx242_1, hx242_2, hx242_3⟩ := at_T121 HR0.out x11_1 p242 q242; cases e242; replace hx242_0 := (HB.out.cell (World.block_lt_of_cell? w _ hx242_0)).trans hx242_0; replace hx242_1 := (HB.out.cell (World.block_lt_of_cell? w _ hx242_1)).trans hx242_1; replace hx242_2 := (HB.out.cell (World.block_lt_of_cell? w _ hx242_2)).trans hx242_2; replace hx242_3 := (HB.out.cell (World.block_lt_of_cell? w _ hx242_3)).trans hx242_3; replace p242 := eq_true p242; replace q242 := eq_true q242
         go_wp2_with (first | ((with_reducible refine gate_dst (N := 5) rfl ?_); refine box_event ?hg (N := 5) ?hd (cs := #[.int .i64 0, .int .i64 0, .int .i64 0, .bool false]) (t := 121) ?hr ?_; (case hd => rfl); (case hg => rfl); (case hr => first | (go_simp; done) | (go_simp; rfl)); intro gb243 hg w11 hbox hb; have n0_ := Aside0.mk (Kd.R_below (by (with_reducible repeat (first | apply Kd.R_alloc | apply Kd.R_drewN | apply Kd.R_drew)); exact HO_3.out) hb); have n1_ := Aside0.mk (below_step (belowA) hb); have n2_ := Aside0.mk (hbox); have n3_ := Aside0.mk ((by rw [hg]; exact (below_size (belowA)) : w.heap.size ≤ gb243)); have n4_ := Aside0.mk ((by rw [hg]; exact (below_size (belowA)) : w.heap.size ≤ gb243)); clear HO_3; clear HB; have HO_3 := n0_; have HB := n1_; have BK243 := n2_; have GW243 := n3_; have GE243 := n4_; clear n0_ n1_ n2_ n3_ n4_; clear hb hbox hg; have hcz12_0 : w11.cell? ⟨gb243, 0, none⟩ = some (.int .i64 0) := (blk_cell BK243.out 0).trans rfl; have hcz12_1 : w11.cell? ⟨gb243, 1, none⟩ = some (.int .i64 0) := (blk_cell BK243.out 1).trans rfl; have hcz12_2 : w11.cell? ⟨gb243, 2, none⟩ = some (.int .i64 0) := (blk_cell BK243.out 2).trans rfl; have hcz12_3 : w11.cell? ⟨gb243, 3, none⟩ = some (.bool false) := (blk_cell BK243.out 3).trans rfl; have hfz12_0 := blk_frozen BK243.out 0; have hfz12_1 := blk_frozen BK243.out 1; have hfz12_2 := blk_frozen BK243.out 2; have hfz12_3 := blk_frozen BK243.out 3) | ((with_reducible refine gate_store (t := 121) (p := 5) rfl ?_); refine store_event (t := 121) (p := 5) (v := ?vo_w13) (w1 := ((((w11.setCell ⟨gb243, 0, none⟩ (.int .i64 ((rd_T121 l0 x11_1).f0))).setCell ⟨gb243, 1, none⟩ (.int .i64 ((rd_T121 l0 x11_1).f1))).setCell ⟨gb243, 2, none⟩ (.int .i64 ((rd_T121 l0 x11_1).f2))).setCell ⟨gb243, 3, none⟩ (.bool ((rd_T121 l0 x11_1).f3)))) ?hg ?ho ?hn ?hr ?_; (case ho => rfl); (case hg => rfl); (case hn => rfl); (case hr => first | (go_simp; done) | (go_simp; rfl)); intro w13 hw; have n0_ : Aside0 (Kd.R (Kd.int .i64) 2 w13 w.heap.size (fun _ => True) v240 x3_1) := ⟨(by rw [hw]; exact (by (with_reducible repeat (first | apply Kd.R_alloc | apply Kd.R_drewN | apply Kd.R_drew)); exact Kd.R_mono (Kd.R_far (p := ⟨gb243, 3, none⟩) (Kd.R_far (p := ⟨gb243, 2, none⟩) (Kd.R_far (p := ⟨gb243, 1, none⟩) (Kd.R_far (p := ⟨gb243, 0, none⟩) (Kd.R_types HO_3.out BK243.out (by decide)) (fun _ hk => hk.2) (.int .i64 ((rd_T121 l0 x11_1).f0))) (fun _ hk => hk.2) (.int .i64 ((rd_T121 l0 x11_1).f1))) (fun _ hk => hk.2) (.int .i64 ((rd_T121 l0 x11_1).f2))) (fun _ hk => hk.2) (.bool ((rd_T121 l0 x11_1).f3))) (fun _ hk => trivial)))⟩; have n1_ : Aside0 (w13.heap[gb243]? = some (.cells #[.int .i64 ((rd_T121 l0 x11_1).f0), .int .i64 ((rd_T121 l0 x11_1).f1), .int .i64 ((rd_T121 l0 x11_1).f2), .bool ((rd_T121 l0 x11_1).f3)] 121 (0, 0))) := ⟨(by rw [hw]; exact (by (with_reducible repeat (first | refine blk_drewN ?_ _ | refine blk_drew ?_ | refine blk_alloc ?_ _)); refine blk_put (cs := #[.int .i64 ((rd_T121 l0 x11_1).f0), .int .i64 ((rd_T121 l0 x11_1).f1), .int .i64 ((rd_T121 l0 x11_1).f2), .bool false]) ?_ 3 _ rfl; (with_reducible repeat (first | refine blk_drewN ?_ _ | refine blk_drew ?_ | refine blk_alloc ?_ _)); refine blk_put (cs := #[.int .i64 ((rd_T121 l0 x11_1).f0), .int .i64 ((rd_T121 l0 x11_1).f1), .int .i64 0, .bool false]) ?_ 2 _ rfl; (with_reducible repeat (first | refine blk_drewN ?_ _ | refine blk_drew ?_ | refine blk_alloc ?_ _)); refine blk_put (cs := #[.int .i64 ((rd_T121 l0 x11_1).f0), .int .i64 0, .int .i64 0, .bool false]) ?_ 1 _ rfl; (with_reducible repeat (first | refine blk_drewN ?_ _ | refine blk_drew ?_ | refine blk_alloc ?_ _)); refine blk_put (cs := #[.int .i64 0, .int .i64 0, .int .i64 0, .bool false]) ?_ 0 _ rfl; (with_reducible repeat (first | refine blk_drewN ?_ _ | refine blk_drew ?_ | refine blk_alloc ?_ _)); exact BK243.out))⟩; have n2_ : Aside0 (Below w.heap.size w w13) := ⟨(by rw [hw]; exact (by repeat (first | (with_reducible first | exact HB.out | apply below_alloc | apply pw_below_drewN | apply below_drew1 | refine below_set ?_ GE243.out) | exact HB.out)))⟩; clear hw; clear HO_3; clear BK243; clear HB; have HO_3 := n0_; have BK243 := n1_; have HB := n2_; clear n0_ n1_ n2_; have hcz14_0 : w13.cell? ⟨gb243, 0, none⟩ = some (.int .i64 ((rd_T121 l0 x11_1).f0)) := (blk_cell BK243.out 0).trans rfl; have hcz14_1 : w13.cell? ⟨gb243, 1, none⟩ = some (.int .i64 ((rd_T121 l0 x11_1).f1)) := (blk_cell BK243.out 1).trans rfl; have hcz14_2 : w13.cell? ⟨gb243, 2, none⟩ = some (.int .i64 ((rd_T121 l0 x11_1).f2)) := (blk_cell BK243.out 2).trans rfl; have hcz14_3 : w13.cell? ⟨gb243, 3, none⟩ = some (.bool ((rd_T121 l0 x11_1).f3)) := (blk_cell BK243.out 3).trans rfl; have hfz14_0 := blk_frozen BK243.out 0; have hfz14_1 := blk_frozen BK243.out 1; have hfz14_2 := blk_frozen BK243.out 2; have hfz14_3 := blk_frozen BK243.out 3; have p10 : 0 ≤ (x11_1 : Int) := of_decide_eq_true (by first | (with_reducible assumption) | assumption); have q10 : (x11_1 : Int) < ((x3_1.length : Int) : Int) := of_decide_eq_true (by first | (with_reducible assumption) | assumption); obtain ⟨go10, co10, eo10, gb10, gl10, cl10, HG10⟩ := Kd.R_form HO_3.out (by omega); (first | cases eo10 | (injection eo10 with ea_ en_ ec_; (first | subst ea_ | (injection ea_ with ea_; subst ea_)); subst ec_; clear en_)); have GB10 := Aside0.mk gb10; have GG10 := Aside0.mk HG10; clear gb10 gl10 HG10; obtain ⟨hx10_0, hf10_0⟩ := Kd.R_celln 0 HO_3.out (x11_1 : Int) p10 q10; replace p10 := eq_true p10; replace q10 := eq_true q10; obtain ⟨hy15_, hz15_⟩ := Kd.R_celln 0 HO_3.out (x11_1 : Int) (of_decide_eq_true (by first | (with_reducible assumption) | assumption)) (of_decide_eq_true (by first | (with_reducible assumption) | assumption)); have HP15 := Kd.R_putg HO_3.out (x11_1 : Int) ((rd_T121 l0 x11_1).f0)) | ((with_reducible refine gate_store (t := 2) (p := 20) rfl ?_); refine store_event (t := 2) (p := 20) (v := ?vo_w16) (w1 := (w13.setCell ⟨go10, (x11_1 : Int).toNat, none⟩ (.int .i64 ((rd_T121 l0 x11_1).f0)))) ?hg ?ho ?hn ?hr ?_; (case ho => rfl); (case hg => rfl); (case hn => rfl); (case hr => first | (go_simp; done) | (go_simp; rfl)); intro w16 hw; have hg : w13.grownBy w16 (some go10) := (by rw [hw]; exact HP15.2); have hp_ : Kd.R (Kd.int .i64) 2 w16 w.heap.size (fun _ => True) (.slice (some ⟨go10, 0, none⟩) x3_1.length co10) y244 := (by rw [hw, Ny244.out]; exact HP15.1); clear HP15; have n0_ := Aside0.mk (hp_); have n1_ := Aside0.mk (blk_grown (g := gb243) (o := .cells #[.int .i64 ((rd_T121 l0 x11_1).f0), .int .i64 ((rd_T121 l0 x11_1).f1), .int .i64 ((rd_T121 l0 x11_1).f2), .bool ((rd_T121 l0 x11_1).f3)] 121 (0, 0)) (by (with_reducible repeat (first | refine blk_drewN ?_ _ | refine blk_drew ?_ | refine blk_alloc ?_ _)); exact BK243.out) hg (Kd.R_ne HO_3.out BK243.out (by decide))); have n2_ := Aside0.mk ((by rw [hw]; exact below_set (HB.out) GB10.out : Below w.heap.size w w16)); clear HO_3; clear BK243; clear HB; have HO_3 := n0_; have BK243 := n1_; have HB := n2_; clear n0_ n1_ n2_; clear hg hw hp_))
         go_roundg k1
         case measure => have := HK1.out; omega
         case rel => exact ⟨(y244), (wrap64 (x11_1 + 1)), (by first | rfl | (simp; done) | (simp [*]; done)), H', ⟨by have := HK1.out; omega⟩, ⟨by (with_reducible repeat (first | apply Kd.R_alloc | apply Kd.R_drewN | apply Kd.R_drew)); exact HO_3.out⟩, ⟨by repeat (first | (with_reducible first | exact HB.out | apply below_alloc | apply pw_below_drewN | apply below_drew1 | refine below_set ?_ GE243.out) | exact HB.out)⟩⟩
        rw [if_neg c9] at H
        exact absurd H (by simp)
       rw [if_neg c8] at H
       exact absurd H (by simp)
      rw [if_neg c7] at H
      exact absurd H (by simp)
     rw [if_neg c6] at H; have c6b0 : decide (x11_1 < (l0.length : Int)) = false := decide_eq_false c6; clear c6; obtain rfl := Option.some.inj H
     go_wp2
     go_ret
     exact ⟨_, by first | rfl | (simp [errW_none, errW_some] <;> rfl) | (simp [*, errW_none, errW_some] <;> rfl), by (with_reducible repeat (first | apply Kd.R_alloc | apply Kd.R_drewN | apply Kd.R_drew)); exact HO_3.out, belowA⟩
  rw [if_neg c3] at H
  exact absurd H (by simp)
 rw [if_neg c2] at H
 exact absurd H (by simp)

theorem impl_onlyPoints.run (l : List (S121)) (hl : l.length ≤ 1000000000) (d : Nat) : ∀ (k i : Nat) (x : List Int), x.length = l.length → i ≤ l.length → l.length - i = d → d < k → x.take i = (l.take i).map (fun x => x.f0) →
    impl_onlyPoints.l0 k x l (l.length : Int) (i : Int) = some (l.map fun x => x.f0) := by
  induction d with
  | zero =>
    intro k i x h0 h1 h2 h3 h4
    obtain ⟨k, rfl⟩ : ∃ m, k = m + 1 := ⟨k - 1, by omega⟩
    simp only [impl_onlyPoints.l0]
    rw [if_neg (by omega)]
    rw [List.take_of_length_le (by omega), List.take_of_length_le (by omega)] at h4
    rw [h4]
  | succ d ih =>
    intro k i x h0 h1 h2 h3 h4
    obtain ⟨k, rfl⟩ : ∃ m, k = m + 1 := ⟨k - 1, by omega⟩
    have hlt : i < l.length := by omega
    have hw : wrap64 ((i : Int) + 1) = ((i + 1 : Nat) : Int) := by unfold wrap64; omega
    have hr : rd_T121 l (i : Int) = l[i] := by simp [rd_T121, List.getD, hlt]
    simp only [impl_onlyPoints.l0]
    rw [if_pos (by omega), if_pos (by omega), if_pos (by omega), if_pos (by omega), hr, hw, Int.toNat_natCast]
    refine ih k (i + 1) _ (by rw [List.length_set]; exact h0) (by omega) (by omega) (by omega) ?_
    rw [List.take_succ_eq_append_getElem (by rw [List.length_set]; omega), List.take_succ_eq_append_getElem hlt, List.map_append, List.take_set_of_le (Nat.le_refl _), h4]
    simp

/-! ### impl_in: function 105 -/
def impl_in.f (a0 : Int) (a1 : Int) (a2 : Int) : Option (Bool) := if a0 ≥ a1 then (some (decide (a0 ≤ a2))) else (some false)
set_option maxHeartbeats 8000000 in
set_option maxRecDepth 100000 in
theorem impl_in.calls (a0 : Int) (a1 : Int) (a2 : Int) (r : Bool) (w : World) (h : impl_in.f a0 a1 a2 = some r) :
    Calls Tryd.prog 105 #[.int .i64 a0, .int .i64 a1, .int .i64 a2] w fun e w' => e = .returned (.bool r) ∧ Drawn0 w w' := by
  have H : (if a0 ≥ a1 then (some (decide (a0 ≤ a2))) else (some false)) = some r := h
  clear h
  by_cases c4 : a0 ≥ a1
  · rw [if_pos c4] at H
    have c4b0 : decide (a1 ≤ a0) = true := decide_eq_true c4
    clear c4
    obtain rfl := Option.some.inj H
    go_enter Tryd.func105, Tryd.ntmps105
    go_wp2
    go_ret
    exact ⟨by first | rfl | (simp; done) | (simp [*]; done), by repeat (first | exact Drawn0.refl _ | apply Drawn0.step)⟩
  · rw [if_neg c4] at H
    have c4b0 : decide (a1 ≤ a0) = false := decide_eq_false c4
    clear c4
    obtain rfl := Option.some.inj H
    go_enter Tryd.func105, Tryd.ntmps105
    go_wp2
    go_ret
    exact ⟨by first | rfl | (simp; done) | (simp [*]; done), by repeat (first | exact Drawn0.refl _ | apply Drawn0.step)⟩

/-! ### impl_block: function 206 (by hand) -/
theorem impl_block.bits (p : Int) (h0 : 512 ≤ p) (h1 : p < 1280) : Go.bits .andNot .i64 p 255 = p - p % 256 ∧ Go.bits .and .i64 p 255 = p % 256 := by
  have h : ∀ n : Fin 768, Go.bits .andNot .i64 (512 + (n.val : Int)) 255 = (512 + (n.val : Int)) - (512 + (n.val : Int)) % 256 ∧ Go.bits .and .i64 (512 + (n.val : Int)) 255 = (512 + (n.val : Int)) % 256 := by decide +kernel
  have e : p = 512 + (((⟨(p - 512).toNat, by omega⟩ : Fin 768).val : Nat) : Int) := by simp; omega
  rw [e]; exact h _
def impl_block.f (a0 : Int) : Option (Int × Int) := some (if 512 ≤ a0 ∧ a0 < 1280 then (a0 - a0 % 256, a0 % 256) else (0, 0))
set_option maxHeartbeats 1000000 in
set_option maxRecDepth 100000 in
theorem impl_block.calls (a0 : Int) (r1 : Int) (r2 : Int) (w : World) (h : impl_block.f a0 = some (r1, r2)) :
    Calls Tryd.prog 206 #[.int .i64 a0] w fun e w' => e = .returned (.tuple #[.int .i64 r1, .int .i64 r2]) ∧ Drawn0 w w' := by
  unfold impl_block.f at h
  have h := Option.some.inj h
  by_cases hc : 512 ≤ a0 ∧ a0 < 1280
  · rw [if_pos hc] at h
    obtain ⟨rfl, rfl⟩ := Prod.mk.inj h
    obtain ⟨e1, e2⟩ := impl_block.bits a0 hc.1 hc.2
    rw [← e1, ← e2]
    clear e1 e2 h
    obtain ⟨hc1, hc2⟩ := hc
    go_enter Tryd.func206, Tryd.ntmps206
    go_wp2
    go_ret2
    exact ⟨rfl, Drawn0.refl _⟩
  · rw [if_neg hc] at h
    obtain ⟨rfl, rfl⟩ := Prod.mk.inj h
    clear h
    have hc' : a0 < 512 ∨ 1280 ≤ a0 := by omega
    clear hc
    rcases hc' with hc | hc
    · go_enter Tryd.func206, Tryd.ntmps206
      go_wp2
      go_ret2
      exact ⟨rfl, Drawn0.refl _⟩
    · go_enter Tryd.func206, Tryd.ntmps206
      go_wp2
      go_ret2
      exact ⟨rfl, Drawn0.refl _⟩

/-! ### impl_kind: function 192 (by hand) -/
def impl_kind.g (p : Int) : Int × Int :=
  if 512 ≤ p ∧ p < 1280 then
    (if p % 256 < 32 ∨ 64 ≤ p % 256 ∧ p % 256 ≤ 67 then (4, p / 256)
     else if p % 256 < 64 ∨ 72 ≤ p % 256 ∧ p % 256 ≤ 75 ∨ 96 ≤ p % 256 ∧ p % 256 ≤ 97 then (5, p / 256)
     else if 68 ≤ p % 256 ∧ p % 256 ≤ 71 then (6, p / 256)
     else if 80 ≤ p % 256 ∧ p % 256 ≤ 89 then (8, p / 256)
     else (0, 0))
  else if 0 ≤ p ∧ p ≤ 31 ∨ 127 ≤ p ∧ p ≤ 159 then (1, 0)
  else if p = 32 ∨ p = 160 ∨ p = 8064 then (2, 0)
  else if 48 ≤ p ∧ p ≤ 57 then (8, 0)
  else if 65 ≤ p ∧ p ≤ 90 then (4, 1)
  else if 97 ≤ p ∧ p ≤ 122 then (5, 1)
  else if 33 ≤ p ∧ p ≤ 126 then (9, 0)
  else if p = 173 then (11, 0)
  else if 161 ≤ p ∧ p ≤ 191 then (10, 0)
  else if 1280 ≤ p ∧ p ≤ 1311 then (7, 5)
  else if 1360 ≤ p ∧ p ≤ 1369 then (8, 5)
  else if 1536 ≤ p ∧ p ≤ 1567 then (7, 6)
  else if 1568 ≤ p ∧ p ≤ 1579 ∨ p = 1584 ∨ p = 1585 then (3, 6)
  else if 1616 ≤ p ∧ p ≤ 1625 then (8, 6)
  else if 1792 ≤ p ∧ p ≤ 1810 ∨ 1824 ≤ p ∧ p ≤ 1844 ∨ 1857 ≤ p ∧ p ≤ 1883 ∨ 12288 ≤ p ∧ p ≤ 23459 then (7, 7)
  else if 2048 ≤ p ∧ p ≤ 2095 then (7, 8)
  else if 4096 ≤ p ∧ p ≤ 4159 then (3, 0)
  else if 7680 ≤ p ∧ p ≤ 7748 ∨ 7760 ≤ p ∧ p ≤ 7785 then (10, 0)
  else if 7936 ≤ p ∧ p ≤ 7947 ∨ p = 7953 ∨ p = 7954 then (11, 0)
  else if 8192 ≤ p ∧ p ≤ 9631 ∧ (p - 8192) % 512 < 416 then (if (p - 8192) % 512 < 208 then (4, 1) else (5, 1))
  else if 9728 ≤ p ∧ p ≤ 9753 then (4, 1)
  else if 9984 ≤ p ∧ p ≤ 10009 ∨ 10032 ≤ p ∧ p ≤ 10035 then (10, 0)
  else if 10016 ≤ p ∧ p ≤ 10025 then (8, 0)
  else if 24576 ≤ p ∧ p ≤ 26623 then (7, 9)
  else (0, 0)
def impl_kind.f (a0 : Int) : Option (Int × Int) := some (impl_kind.g a0)
def impl_kind.Post (p : Int) (w : World) (e : Ending) (w' : World) : Prop := e = .returned (.tuple #[.int .i64 (impl_kind.g p).1, .int .i64 (impl_kind.g p).2]) ∧ Drawn0 w w'
theorem impl_kind.post {p a b : Int} {w w' : World} (h : impl_kind.g p = (a, b)) (hb : Drawn0 w w') : impl_kind.Post p w (.returned (.tuple #[.int .i64 a, .int .i64 b])) w' := by
  unfold impl_kind.Post; rw [h]; exact ⟨rfl, hb⟩
set_option maxHeartbeats 1000000 in
set_option maxRecDepth 100000 in
theorem impl_kind.inC (p a b : Int) (w : World) : Calls Tryd.prog 105 #[.int .i64 p, .int .i64 a, .int .i64 b] w fun e w' => e = .returned (.bool (decide (a ≤ p ∧ p ≤ b))) ∧ w = w' := by
  by_cases h : a ≤ p
  · have e : decide (a ≤ p ∧ p ≤ b) = decide (p ≤ b) := by simp [h]
    rw [e]; clear e
    go_enter Tryd.func105, Tryd.ntmps105
    go_wp2
    go_ret
    exact ⟨rfl, rfl⟩
  · have e : decide (a ≤ p ∧ p ≤ b) = false := by simp [h]
    rw [e]; clear e
    go_enter Tryd.func105, Tryd.ntmps105
    go_wp2
    go_ret
    exact ⟨rfl, rfl⟩
set_option maxHeartbeats 8000000 in
set_option maxRecDepth 100000 in
theorem impl_kind.walk1 (a0 : Int) (w : World) (hc : 512 ≤ a0 ∧ a0 < 1280) : Calls Tryd.prog 192 #[.int .i64 a0] w (impl_kind.Post a0 w) := by
  have C := fun W => impl_block.calls a0 (a0 - a0 % 256) (a0 % 256) W (by unfold impl_block.f; rw [if_pos hc])
  obtain ⟨hc1, hc2⟩ := hc
  go_enter Tryd.func192, Tryd.ntmps192
  go_wp2_with (first | (go_at_call 206; refine (C _).mono ?_; rintro e w1 ⟨rfl, ⟨nd, rfl⟩⟩) | (go_at_call 105; refine (impl_kind.inC _ _ _ _).mono ?_; rintro e w1 ⟨rfl, rfl⟩))
  all_goals
    go_ret2
    refine impl_kind.post ?_ (by repeat (first | exact Drawn0.refl _ | apply Drawn0.step))
    go_light
    try simp only [beq_iff_eq, beq_eq_false_iff_ne, ne_eq] at *
  all_goals (try (exfalso; omega))
  all_goals (unfold impl_kind.g; repeat (first | rw [if_pos (by omega)] | rw [if_neg (by omega)]))
  all_goals (try (simp only [Prod.mk.injEq, and_true, true_and]; omega))
set_option maxHeartbeats 8000000 in
set_option maxRecDepth 100000 in
theorem impl_kind.walk2 (a0 : Int) (w : World) (hc : ¬ (512 ≤ a0 ∧ a0 < 1280)) (h0 : 0 ≤ a0) : Calls Tryd.prog 192 #[.int .i64 a0] w (impl_kind.Post a0 w) := by
  have C := fun W => impl_block.calls a0 0 0 W (by unfold impl_block.f; rw [if_neg hc])
  have hc' : a0 < 512 ∨ 1280 ≤ a0 := by omega
  have hc1 := Aside0.mk hc'
  clear hc hc'
  go_enter Tryd.func192, Tryd.ntmps192
  go_wp2_with (first | (go_at_call 206; refine (C _).mono ?_; rintro e w1 ⟨rfl, ⟨nd, rfl⟩⟩) | (go_at_call 105; refine (impl_kind.inC _ _ _ _).mono ?_; rintro e w1 ⟨rfl, rfl⟩))
  all_goals
    go_ret2
    refine impl_kind.post ?_ (by repeat (first | exact Drawn0.refl _ | apply Drawn0.step))
    have hc2 := hc1.out
    go_light
    try simp only [beq_iff_eq, beq_eq_false_iff_ne, ne_eq] at *
  all_goals (try (exfalso; omega))
  all_goals (unfold impl_kind.g; repeat (first | rw [if_pos (by omega)] | rw [if_neg (by omega)]))
  all_goals (try (simp only [Prod.mk.injEq, and_true, true_and]; omega))
set_option maxHeartbeats 8000000 in
set_option maxRecDepth 100000 in
theorem impl_kind.walk3 (a0 : Int) (w : World) (h0 : a0 < 0) : Calls Tryd.prog 192 #[.int .i64 a0] w (impl_kind.Post a0 w) := by
  have C := fun W => impl_block.calls a0 0 0 W (by unfold impl_block.f; rw [if_neg (by omega)])
  go_enter Tryd.func192, Tryd.ntmps192
  go_wp2_with (first | (go_at_call 206; refine (C _).mono ?_; rintro e w1 ⟨rfl, ⟨nd, rfl⟩⟩) | (go_at_call 105; refine (impl_kind.inC _ _ _ _).mono ?_; rintro e w1 ⟨rfl, rfl⟩))
  all_goals
    go_ret2
    refine impl_kind.post ?_ (by repeat (first | exact Drawn0.refl _ | apply Drawn0.step))
    go_light
    try simp only [beq_iff_eq, beq_eq_false_iff_ne, ne_eq] at *
  all_goals (try (exfalso; omega))
  all_goals (unfold impl_kind.g; repeat (first | rw [if_pos (by omega)] | rw [if_neg (by omega)]))
  all_goals (try (simp only [Prod.mk.injEq, and_true, true_and]; omega))
theorem impl_kind.walk (a0 : Int) (w : World) : Calls Tryd.prog 192 #[.int .i64 a0] w (impl_kind.Post a0 w) := by
  by_cases hc : 512 ≤ a0 ∧ a0 < 1280
  · exact impl_kind.walk1 a0 w hc
  · by_cases h0 : 0 ≤ a0
    · exact impl_kind.walk2 a0 w hc h0
    · exact impl_kind.walk3 a0 w (by omega)
theorem impl_kind.calls (a0 : Int) (r1 : Int) (r2 : Int) (w : World) (h : impl_kind.f a0 = some (r1, r2)) :
    Calls Tryd.prog 192 #[.int .i64 a0] w fun e w' => e = .returned (.tuple #[.int .i64 r1, .int .i64 r2]) ∧ Drawn0 w w' := by
  have h := Option.some.inj h
  refine (impl_kind.walk a0 w).mono fun e w' hp => ?_
  unfold impl_kind.Post at hp
  rw [h] at hp
  exact hp

/-! ### impl_Category: function 119 -/
def impl_Category.f (a0 : Int) : Option (Int) := (impl_kind.f a0).bind fun bt245 => (some bt245.1)
set_option maxHeartbeats 8000000 in
set_option maxRecDepth 100000 in
theorem impl_Category.calls (a0 : Int) (r : Int) (w : World) (h : impl_Category.f a0 = some r) :
    Calls Tryd.prog 119 #[.int .i64 a0] w fun e w' => e = .returned (.int .i64 r) ∧ Drawn0 w w' := by
  have H : ((impl_kind.f a0).bind fun bt245 => (some bt245.1)) = some r := h
  clear h
  replace H := Option.bind_eq_some_iff.mp H
  obtain ⟨⟨t245, t246⟩, A20, H⟩ := H
  replace H : (some t245) = some r := H
  have A2 := Aside0.mk A20
  clear A20
  obtain rfl := Option.some.inj H
  go_enter Tryd.func119, Tryd.ntmps119
  go_wp2_with (first | ((with_reducible refine gate_callee (f := 192) rfl ?_); refine goesL_ (some 7) rfl rfl Tryd.func192 (by kernel_rfl) rfl #[.int .i64 a0] rfl (by (try simp only [List.map_toArray, List.map_cons, List.map_nil]); first | done | rfl | (simp only [List.length_drop, List.length_take]; rfl)) ?_; (with_reducible refine (impl_kind.calls a0 t245 t246 _ A2.out).mono ?_); rintro e w' ⟨rfl, ⟨nd, rfl⟩⟩; refine ⟨_, rfl, ?_⟩))
  go_ret
  exact ⟨by first | rfl | (simp; done) | (simp [*]; done), by repeat (first | exact Drawn0.refl _ | apply Drawn0.step)⟩

/-! ### impl_isMark: function 118 -/
def impl_isMark.f (a0 : Int) : Option (Bool) := (impl_Category.f a0).bind fun t247 => (some (t247 == 3))
set_option maxHeartbeats 8000000 in
set_option maxRecDepth 100000 in
theorem impl_isMark.calls (a0 : Int) (r : Bool) (w : World) (h : impl_isMark.f a0 = some r) :
    Calls Tryd.prog 118 #[.int .i64 a0] w fun e w' => e = .returned (.bool r) ∧ Drawn0 w w' := by
  have H : ((impl_Category.f a0).bind fun t247 => (some (t247 == 3))) = some r := h
  clear h
  replace H := Option.bind_eq_some_iff.mp H
  obtain ⟨t247, A20, H⟩ := H
  replace H : (some (t247 == 3)) = some r := H
  have A2 := Aside0.mk A20
  clear A20
  obtain rfl := Option.some.inj H
  go_enter Tryd.func118, Tryd.ntmps118
  go_wp2_with (first | ((with_reducible refine gate_callee (f := 119) rfl ?_); refine goesL_ (some 4) rfl rfl Tryd.func119 (by kernel_rfl) rfl #[.int .i64 a0] rfl (by (try simp only [List.map_toArray, List.map_cons, List.map_nil]); first | done | rfl | (simp only [List.length_drop, List.length_take]; rfl)) ?_; (with_reducible refine (impl_Category.calls a0 t247 _ A2.out).mono ?_); rintro e w' ⟨rfl, ⟨nd, rfl⟩⟩; refine ⟨_, rfl, ?_⟩))
  go_ret
  exact ⟨by first | rfl | (simp; done) | (simp [*]; done), by repeat (first | exact Drawn0.refl _ | apply Drawn0.step)⟩

/-! ### impl_isSyllable: function 229 -/
def impl_isSyllable.f (a0 : Int) : Option (Bool) := (impl_in.f a0 12288 23459).bind fun t248 => (some t248)
set_option maxHeartbeats 8000000 in
set_option maxRecDepth 100000 in
theorem impl_isSyllable.calls (a0 : Int) (r : Bool) (w : World) (h : impl_isSyllable.f a0 = some r) :
    Calls Tryd.prog 229 #[.int .i64 a0] w fun e w' => e = .returned (.bool r) ∧ Drawn0 w w' := by
  have H : ((impl_in.f a0 12288 23459).bind fun t248 => (some t248)) = some r := h
  clear h
  replace H := Option.bind_eq_some_iff.mp H
  obtain ⟨t248, A20, H⟩ := H
  replace H : (some t248) = some r := H
  have A2 := Aside0.mk A20
  clear A20
  obtain rfl := Option.some.inj H
  go_enter Tryd.func229, Tryd.ntmps229
  go_wp2_with (first | ((with_reducible refine gate_callee (f := 105) rfl ?_); refine goesL_ (some 4) rfl rfl Tryd.func105 (by kernel_rfl) rfl #[.int .i64 a0, .int .i64 12288, .int .i64 23459] rfl (by (try simp only [List.map_toArray, List.map_cons, List.map_nil]); first | done | rfl | (simp only [List.length_drop, List.length_take]; rfl)) ?_; (with_reducible refine (impl_in.calls a0 12288 23459 t248 _ A2.out).mono ?_); rintro e w' ⟨rfl, ⟨nd, rfl⟩⟩; refine ⟨_, rfl, ?_⟩))
  go_ret
  exact ⟨by first | rfl | (simp; done) | (simp [*]; done), by repeat (first | exact Drawn0.refl _ | apply Drawn0.step)⟩

/-! ### impl_isOpen: function 222 -/
def impl_isOpen.f (a0 : Int) : Option (Bool) := (impl_isSyllable.f a0).bind fun t249 => (if t249 = true then (some ((Int.tmod (wrap64 (a0 - 12288)) 28) == 0)) else (some false))
set_option maxHeartbeats 8000000 in
set_option maxRecDepth 100000 in
theorem impl_isOpen.calls (a0 : Int) (r : Bool) (w : World) (h : impl_isOpen.f a0 = some r) :
    Calls Tryd.prog 222 #[.int .i64 a0] w fun e w' => e = .returned (.bool r) ∧ Drawn0 w w' := by
  have H : ((impl_isSyllable.f a0).bind fun t249 => (if t249 = true then (some ((Int.tmod (wrap64 (a0 - 12288)) 28) == 0)) else (some false))) = some r := h
  clear h
  replace H := Option.bind_eq_some_iff.mp H
  obtain ⟨t249, A20, H⟩ := H
  replace H : (if t249 = true then (some ((Int.tmod (wrap64 (a0 - 12288)) 28) == 0)) else (some false)) = some r := H
  have A2 := Aside0.mk A20
  clear A20
  by_cases c3 : t249 = true
  · subst c3
    have H1 : (some ((Int.tmod (wrap64 (a0 - 12288)) 28) == 0)) = some r := by rw [if_pos rfl] at H; exact H
    clear H
    have H := H1
    clear H1
    obtain rfl := Option.some.inj H
    go_enter Tryd.func222, Tryd.ntmps222
    go_wp2_with (first | ((with_reducible refine gate_callee (f := 229) rfl ?_); refine goesL_ (some 4) rfl rfl Tryd.func229 (by kernel_rfl) rfl #[.int .i64 a0] rfl (by (try simp only [List.map_toArray, List.map_cons, List.map_nil]); first | done | rfl | (simp only [List.length_drop, List.length_take]; rfl)) ?_; (with_reducible refine (impl_isSyllable.calls a0 true _ A2.out).mono ?_); rintro e w' ⟨rfl, ⟨nd, rfl⟩⟩; refine ⟨_, rfl, ?_⟩))
    go_ret
    exact ⟨by first | rfl | (simp; done) | (simp [*]; done), by repeat (first | exact Drawn0.refl _ | apply Drawn0.step)⟩
  · replace c3 := Bool.eq_false_iff.mpr c3
    subst c3
    have H1 : (some false) = some r := by rw [if_neg (show ¬ (false = true) by decide)] at H; exact H
    clear H
    have H := H1
    clear H1
    obtain rfl := Option.some.inj H
    go_enter Tryd.func222, Tryd.ntmps222
    go_wp2_with (first | ((with_reducible refine gate_callee (f := 229) rfl ?_); refine goesL_ (some 4) rfl rfl Tryd.func229 (by kernel_rfl) rfl #[.int .i64 a0] rfl (by (try simp only [List.map_toArray, List.map_cons, List.map_nil]); first | done | rfl | (simp only [List.length_drop, List.length_take]; rfl)) ?_; (with_reducible refine (impl_isSyllable.calls a0 false _ A2.out).mono ?_); rintro e w' ⟨rfl, ⟨nd, rfl⟩⟩; refine ⟨_, rfl, ?_⟩))
    go_ret
    exact ⟨by first | rfl | (simp; done) | (simp [*]; done), by repeat (first | exact Drawn0.refl _ | apply Drawn0.step)⟩

/-! ### impl_isPicture: function 230 -/
def impl_isPicture.f (a0 : Int) : Option (Bool) := (impl_in.f a0 7680 7743).bind fun t250 => (some t250)
set_option maxHeartbeats 8000000 in
set_option maxRecDepth 100000 in
theorem impl_isPicture.calls (a0 : Int) (r : Bool) (w : World) (h : impl_isPicture.f a0 = some r) :
    Calls Tryd.prog 230 #[.int .i64 a0] w fun e w' => e = .returned (.bool r) ∧ Drawn0 w w' := by
  have H : ((impl_in.f a0 7680 7743).bind fun t250 => (some t250)) = some r := h
  clear h
  replace H := Option.bind_eq_some_iff.mp H
  obtain ⟨t250, A20, H⟩ := H
  replace H : (some t250) = some r := H
  have A2 := Aside0.mk A20
  clear A20
  obtain rfl := Option.some.inj H
  go_enter Tryd.func230, Tryd.ntmps230
  go_wp2_with (first | ((with_reducible refine gate_callee (f := 105) rfl ?_); refine goesL_ (some 4) rfl rfl Tryd.func105 (by kernel_rfl) rfl #[.int .i64 a0, .int .i64 7680, .int .i64 7743] rfl (by (try simp only [List.map_toArray, List.map_cons, List.map_nil]); first | done | rfl | (simp only [List.length_drop, List.length_take]; rfl)) ?_; (with_reducible refine (impl_in.calls a0 7680 7743 t250 _ A2.out).mono ?_); rintro e w' ⟨rfl, ⟨nd, rfl⟩⟩; refine ⟨_, rfl, ?_⟩))
  go_ret
  exact ⟨by first | rfl | (simp; done) | (simp [*]; done), by repeat (first | exact Drawn0.refl _ | apply Drawn0.step)⟩

end Go.Proofs.YtiabgmddnddeiaaDoor.QFnExactSentenceCuts
