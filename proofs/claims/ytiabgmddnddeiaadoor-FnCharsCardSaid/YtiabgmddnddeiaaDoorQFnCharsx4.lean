/- The law FnChars: at every input the call answers true (this text: contracts on its way, by a program of this session's; no condition of ours). -/
import Derived.Test.YtiabgmddnddeiaaDoorQFnCharsx0
import Derived.Test.YtiabgmddnddeiaaDoorQFnCharsx1
import Derived.Test.YtiabgmddnddeiaaDoorQFnCharsx2
import Derived.Test.YtiabgmddnddeiaaDoorQFnCharsx3
namespace Go.Proofs.YtiabgmddnddeiaaDoor.QFnChars
open Go.RowKit Go.Proofs.YtiabgmddnddeiaaDoorW.PrintWords Go.Proofs.YtiabgmddnddeiaaDoorW.PrintLast Go.Proofs.YtiabgmddnddeiaaDoorW.PrintMore
attribute [local go_sem] max2_int min2_int max_two min_two max_three min_three max_four min_four   -- for this text's walks alone
set_option linter.unusedVariables false
set_option linter.unusedSimpArgs false

/-! ### impl_charCuts: function 115 (by hand) -/
/-- whether there is a cut of characters ahead of p, behind q; c, d: their classes -/
def impl_charCuts.cut (q p c d : Int) (bind picture : Bool) (flags : Int) (inp : Bool) : Bool :=
  if (q == 13 && p == 10) = true then false
  else if (c == 1 || d == 1) = true then true
  else if (d == 3 && (c == 3 || c == 4 || c == 6 || c == 7)) = true then false
  else if ((d == 4 || d == 6) && (c == 4 || c == 5)) = true then false
  else if ((d == 5 || d == 7) && c == 5) = true then false
  else if (c == 2) = true then false
  else if (inp && bind) = true then false
  else if (q == 7936 && c == 8 && picture) = true then false
  else if (c == 9 && d == 9 && flags % 2 == 1) = true then false
  else true
theorem impl_charCuts.ret_ {a b : Bool} (h : a = b) : Ending.returned (Value.bool a) = .returned (.bool b) := by rw [h]
set_option maxHeartbeats 8000000 in
set_option maxRecDepth 100000 in
theorem impl_charCuts.inner (aq ap ac ad ab ai af : Addr) (q p c d flags : Int) (bind picture inp : Bool) (W : World) (h0 : W.cell? aq = some (.int .i64 q)) (h1 : W.cell? ap = some (.int .i64 p)) (h2 : W.cell? ac = some (.int .i64 c)) (h3 : W.cell? ad = some (.int .i64 d)) (h4 : W.cell? ab = some (.bool bind)) (h5 : W.cell? ai = some (.bool picture)) (h6 : W.cell? af = some (.int .i64 flags))
    (hf0 : 0 ≤ flags) (hf1 : flags ≤ 1000000000000) (HI : ∀ V : World, Calls Tryd.prog 105 #[.int .i64 p, .int .i64 1536, .int .i64 1567] V fun e w' => e = .returned (.bool inp) ∧ Drawn0 V w') :
    Calls Tryd.prog 191 #[.pointer (some aq), .pointer (some ap), .pointer (some ac), .pointer (some ad), .pointer (some ab), .pointer (some ai), .pointer (some af)] W fun e w' => e = .returned (.bool (impl_charCuts.cut q p c d bind picture flags inp)) ∧ Drawn0 W w' := by
  go_enter Tryd.func191, Tryd.ntmps191
  go_wp2_with (go_at_call 105; ((with_reducible refine (HI _).mono ?_); rintro e w1 ⟨rfl, ⟨nd, rfl⟩⟩))
  all_goals
    go_ret
    refine ⟨impl_charCuts.ret_ ?_, ?_⟩
    · unfold impl_charCuts.cut
      first | (simp [*]; done) | (simp_all; done) | (simp_all; omega)
    · first | exact ⟨_, rfl⟩ | exact ⟨0, (World.drewN_zero _).symm⟩
def impl_charCuts.cutO (cc : Int → Int) (prev : Option Int) (pic bind : Bool) (fl p : Int) : Bool := match prev with
  | none => false
  | some q => impl_charCuts.cut q p (cc p) (cc q) bind pic fl (decide (1536 ≤ p) && decide (p ≤ 1567))
/-- the cuts ahead of the points of a row, from a state -/
def impl_charCuts.go (cc : Int → Int) : Option Int → Bool → Bool → Int → List Int → List Bool
  | _, _, _, _, [] => []
  | prev, pic, bind, fl, p :: t => impl_charCuts.cutO cc prev pic bind fl p ::
    impl_charCuts.go cc (some p) (if cc p = 2 then pic else cc p == 8) (p == 1584 || (p == 1585 && bind)) (if cc p = 9 then fl + 1 else 0) t
theorem impl_charCuts.step (cc : Int → Int) (prev : Option Int) (pic bind : Bool) (fl : Int) (l : List Int) (out R : List Bool) (i : Nat) (p : Int) (hlt : i < l.length) (hp : l[i] = p) (hL : out.length = l.length) (hE : out.take i ++ impl_charCuts.go cc prev pic bind fl (l.drop i) = R) (b : Bool) (hb : b = impl_charCuts.cutO cc prev pic bind fl p) :
    (out.set i b).take (i + 1) ++ impl_charCuts.go cc (if i + 1 = 0 then none else l[i + 1 - 1]?) (if cc p = 2 then pic else cc p == 8) (p == 1584 || (p == 1585 && bind)) (if cc p = 9 then fl + 1 else 0) (l.drop (i + 1)) = R := by
  rw [List.drop_eq_getElem_cons hlt, hp] at hE
  rw [← hE, if_neg (by omega), Nat.add_sub_cancel, List.getElem?_eq_getElem hlt, hp]
  have hgo : ∀ t, impl_charCuts.go cc prev pic bind fl (p :: t) = b :: impl_charCuts.go cc (some p) (if cc p = 2 then pic else cc p == 8) (p == 1584 || (p == 1585 && bind)) (if cc p = 9 then fl + 1 else 0) t := by
    intro t; rw [hb]; rfl
  rw [hgo]
  rw [show (out.set i b).take (i + 1) = out.take i ++ [b] by
    rw [List.take_add_one, List.getElem?_set_self (by omega), List.take_set_of_le (Nat.le_refl _)]; rfl]
  simp
theorem impl_charCuts.tail0 (out : List Bool) (n i : Nat) (h : out.drop i = List.replicate (n - i) false) (hi : i < n) : out.set i false = out := by
  have : out[i]? = some false := by
    have := congrArg (·[0]?) h
    simpa [List.getElem?_drop, List.getElem?_replicate, hi, Nat.sub_pos_of_lt hi] using this
  apply List.ext_getElem?
  intro k
  rw [List.getElem?_set]
  split
  · rename_i h1; subst h1; have := (List.getElem?_eq_some_iff.1 this).1; simp_all
  · rfl
theorem impl_charCuts.tail1 (out : List Bool) (b : Bool) (n i : Nat) (h : out.drop i = List.replicate (n - i) false) : (out.set i b).drop (i + 1) = List.replicate (n - (i + 1)) false := by
  rw [List.drop_set_of_lt (by omega), ← List.drop_drop, h, List.drop_replicate]; congr 1
theorem impl_charCuts.blk_one {w : World} {g : Nat} {t : TypeId} {v : Value} (h : w.heap[g]? = some (.cells #[v] t (0, 0))) (u : Value) : (w.setCell ⟨g, 0, none⟩ u).heap[g]? = some (.cells #[u] t (0, 0)) := blk_put h 0 u rfl
theorem impl_charCuts.far {W : World} {b g4 g5 g6 x : Nat} {v : Value} {xs : List Bool} (h : Kd.R Kd.bool 4 W b (fun k => k ≠ g4 ∧ k ≠ g5 ∧ k ≠ g6) v xs) (hx : x = g4 ∨ x = g5 ∨ x = g6) (u : Value) : Kd.R Kd.bool 4 (W.setCell ⟨x, 0, none⟩ u) b (fun k => k ≠ g4 ∧ k ≠ g5 ∧ k ≠ g6) v xs :=
  Kd.R_far h (fun k hk => by show k ≠ x; rcases hx with e | e | e; exact e ▸ hk.1; exact e ▸ hk.2.1; exact e ▸ hk.2.2) u
theorem impl_charCuts.leaf {cc : Int → Int} {l : List Int} {R : List Bool} {w W : World} {g4 g5 g6 c5 i : Nat} {A5 : Option Addr} {c p : Int} {pic bind b X4 X5 : Bool} {fl X6 : Int} {out : List Bool} (hlt : i < l.length)
    (b4 : W.heap[g4]? = some (.cells #[.bool X4] 4 (0, 0))) (b5 : W.heap[g5]? = some (.cells #[.bool X5] 4 (0, 0))) (b6 : W.heap[g6]? = some (.cells #[.int .i64 X6] 3 (0, 0)))
    (ro : Kd.R Kd.bool 4 W w.heap.size (fun k => k ≠ g4 ∧ k ≠ g5 ∧ k ≠ g6) (.slice A5 l.length c5) (out.set i b)) (bw : Below w.heap.size w W)
    (hL : out.length = l.length) (hD : (out.set i b).drop (i + 1) = List.replicate (l.length - (i + 1)) false)
    (hE : (out.set i b).take (i + 1) ++ impl_charCuts.go cc (if i + 1 = 0 then none else l[i + 1 - 1]?) (if c = 2 then pic else c == 8) (p == 1584 || (p == 1585 && bind)) (if c = 9 then fl + 1 else 0) (l.drop (i + 1)) = R)
    (hf0 : 0 ≤ fl) (hf1 : fl ≤ i) (e4 : X4 = if c = 2 then pic else c == 8) (e5 : X5 = (p == 1584 || (p == 1585 && bind))) (e6 : X6 = if c = 9 then fl + 1 else 0) :
    (∃ (i1 : Nat) (pic bind : Bool) (fl : Int) (out : List Bool), i1 ≤ l.length ∧ Value.int .i64 ((i : Int) + 1) = .int .i64 i1 ∧ 0 ≤ fl ∧ fl ≤ i1 ∧ Aside0 (out.length = l.length ∧ out.drop i1 = List.replicate (l.length - i1) false) ∧ Aside0 (out.take i1 ++ impl_charCuts.go cc (if i1 = 0 then none else l[i1 - 1]?) pic bind fl (l.drop i1) = R) ∧ Aside0 (W.heap[g4]? = some (.cells #[.bool pic] 4 (0, 0))) ∧ Aside0 (W.heap[g5]? = some (.cells #[.bool bind] 4 (0, 0))) ∧ Aside0 (W.heap[g6]? = some (.cells #[.int .i64 fl] 3 (0, 0))) ∧ Aside0 (Kd.R Kd.bool 4 W w.heap.size (fun k => k ≠ g4 ∧ k ≠ g5 ∧ k ≠ g6) (.slice A5 l.length c5) out) ∧ Aside0 (Below w.heap.size w W)) ∧
    l.length - (intOf (.int .i64 ((i : Int) + 1))).toNat < l.length - (intOf (.int .i64 (i : Int))).toNat := by
  rw [← e4, ← e5, ← e6] at hE
  refine ⟨⟨i + 1, X4, X5, X6, out.set i b, hlt, by rw [Int.natCast_add]; rfl, ?_, ?_, ⟨by rw [List.length_set]; exact hL, hD⟩, ⟨hE⟩, ⟨b4⟩, ⟨b5⟩, ⟨b6⟩, ⟨ro⟩, ⟨bw⟩⟩, ?_⟩
  · rw [e6]; split <;> omega
  · rw [e6]; split <;> omega
  · simp only [intOf]; omega
set_option maxHeartbeats 8000000 in
set_option maxRecDepth 100000 in
theorem impl_charCuts.run (cc : Int → Int) (HC : ∀ (p : Int) (W : World), 0 ≤ p → p ≤ 1114111 → Calls Tryd.prog 190 #[.int .i64 p] W fun e w' => e = .returned (.int .i64 (cc p)) ∧ Drawn0 W w') (HIN : ∀ (p : Int) (V : World), Calls Tryd.prog 105 #[.int .i64 p, .int .i64 1536, .int .i64 1567] V fun e w' => e = .returned (.bool (decide (1536 ≤ p) && decide (p ≤ 1567))) ∧ Drawn0 V w') (A0 : Option Addr) (c0 : Nat) (l : List Int) (w : World) (hr0 : Kd.C (Kd.int .i64) w A0 l.length l) (hc0 : l.length ≤ c0) (hl : l.length ≤ 1000000000) (hp : ∀ p ∈ l, 0 ≤ p ∧ p ≤ 1114111) (R : List Bool) (hR : impl_charCuts.go cc none false false 0 l = R) :
    Calls Tryd.prog 115 #[.slice A0 l.length c0] w fun e w' => ∃ v0_ : Value, e = .returned (v0_) ∧ Kd.R Kd.bool 4 w' w.heap.size (fun _ => True) v0_ R ∧ Below w.heap.size w w' := by
  have HR := Aside0.mk hr0
  have HP := Aside0.mk hp
  have hn : (0 : Int) ≤ (l.length : Int) := by omega
  have HRR := Aside0.mk hR
  clear hr0 hp hR
  go_enter Tryd.func115, Tryd.ntmps115
  go_wp2_with (first | ((with_reducible refine gate_dst (N := 14) rfl ?_); refine Kd.R_make Kd.bool (w0 := w) w.heap.size 4 rfl (N := 14) rfl 90 _ _ rfl (l.length : Int) rfl rfl Tryd.underlying90 (.bool false) 1 info4 rfl (by decide) (by omega) false (ok := fun _ => True) (okp := fun _ => False) rfl (fun _ hk => hk.elim) ?aF hn (by omega) (Below.refl _ _) (Nat.le_refl _) ?_; (case aF => simp); intro v5 w4 ho5 hb5 hg5 hn5; rw [Int.toNat_natCast] at ho5; have HO5 := Aside0.mk ho5; have HB5 := Aside0.mk hb5; clear ho5 hb5 hg5 hn5))
  obtain ⟨w5, hw5⟩ : ∃ x, x = ((w4.alloc (.cells #[.bool false] 4)).alloc (.cells #[.bool false] 4)).alloc (.cells #[.int .i64 0] 3) := ⟨_, rfl⟩
  have hs := HB5.out.size
  have hrow : Kd.R Kd.bool 4 w5 w.heap.size (fun k => k ≠ w4.heap.size ∧ k ≠ w4.heap.size + 1 ∧ k ≠ w4.heap.size + 1 + 1) v5 (List.replicate l.length false) := by
    rw [hw5]
    refine Kd.R_mono (Kd.R_bound (Kd.R_alloc (Kd.R_alloc (Kd.R_alloc (Kd.R_bound HO5.out) _) _) _)) ?_
    intro k hk
    have := hk.1.2.2.1
    omega
  have hb4 : w5.heap[w4.heap.size]? = some (.cells #[.bool false] 4 (0, 0)) := by rw [hw5]; exact blk_alloc (blk_alloc (blk_new w4 _) _) _
  have hb5 : w5.heap[w4.heap.size + 1]? = some (.cells #[.bool false] 4 (0, 0)) := by rw [hw5]; exact blk_alloc (by have := blk_new (w4.alloc (.cells #[.bool false] 4)) (.cells #[.bool false] 4); simpa using this) _
  have hb6 : w5.heap[w4.heap.size + 1 + 1]? = some (.cells #[.int .i64 0] 3 (0, 0)) := by rw [hw5]; have := blk_new ((w4.alloc (.cells #[.bool false] 4)).alloc (.cells #[.bool false] 4)) (.cells #[.int .i64 0] 3); simpa using this
  have HB0 : Aside0 (Below w.heap.size w w5) := ⟨by rw [hw5]; exact below_alloc (below_alloc (below_alloc HB5.out _) _) _⟩
  rw [← hw5]
  obtain ⟨A5, c5, rfl⟩ : ∃ A c, v5 = .slice A l.length c := by
    obtain ⟨A, c, h⟩ := Kd.R_slice HO5.out
    rw [List.length_replicate] at h
    exact ⟨A, c, h⟩
  obtain ⟨g4, hg4⟩ : ∃ g, w4.heap.size = g := ⟨_, rfl⟩
  obtain ⟨g5, hg5⟩ : ∃ g, g4 + 1 = g := ⟨_, rfl⟩
  obtain ⟨g6, hg6⟩ : ∃ g, g5 + 1 = g := ⟨_, rfl⟩
  rw [hg4] at hs hrow hb4 hb5 hb6 ⊢
  rw [hg5] at hrow hb5 hb6 ⊢
  rw [hg6] at hrow hb6 ⊢
  have B4 := Aside0.mk hb4
  have B5 := Aside0.mk hb5
  have B6 := Aside0.mk hb6
  have HO := Aside0.mk hrow
  have HG : Aside0 (w.heap.size ≤ g4 ∧ g4 + 1 = g5 ∧ g5 + 1 = g6) := ⟨⟨hs, hg5, hg6⟩⟩
  clear hw5 hs hrow hb4 hb5 hb6 hg4 hg5 hg6 HB5 HO5
  go_loopw [17] (fun v17 wr => ∃ (i : Nat) (pic bind : Bool) (fl : Int) (out : List Bool), i ≤ l.length ∧ v17 = .int .i64 i ∧ 0 ≤ fl ∧ fl ≤ i ∧ Aside0 (out.length = l.length ∧ out.drop i = List.replicate (l.length - i) false) ∧ Aside0 (out.take i ++ impl_charCuts.go cc (if i = 0 then none else l[i - 1]?) pic bind fl (l.drop i) = R) ∧ Aside0 (wr.heap[g4]? = some (.cells #[.bool pic] 4 (0, 0))) ∧ Aside0 (wr.heap[g5]? = some (.cells #[.bool bind] 4 (0, 0))) ∧ Aside0 (wr.heap[g6]? = some (.cells #[.int .i64 fl] 3 (0, 0))) ∧ Aside0 (Kd.R Kd.bool 4 wr w.heap.size (fun k => k ≠ g4 ∧ k ≠ g5 ∧ k ≠ g6) (.slice A5 l.length c5) out) ∧ Aside0 (Below w.heap.size w wr)) (fun v17 _ => l.length - (intOf v17).toNat)
  case atStart => exact ⟨0, false, false, 0, List.replicate l.length false, Nat.zero_le _, rfl, by omega, by omega, ⟨by simp, by simp⟩, ⟨by simpa using HRR.out⟩, B4, B5, B6, HO, HB0⟩
  case round =>
    clear B4 B5 B6 HO HB0 HRR
    obtain ⟨i, pic, bind, fl, out, hi, rfl, hf0, hf1, HL, HE, B4, B5, B6, HO, HW⟩ := hrel
    by_cases hlt : i < l.length
    · obtain ⟨g, cap, hv, -⟩ := Kd.R_form HO.out (by rw [HL.out.1]; omega)
      have hgb : w.heap.size ≤ g := Kd.R_base HO.out g (by rw [hv]; simp [Value.ownBlock])
      have hgn := HO.out.1 g (by rw [hv]; simp [Value.ownBlock])
      injection hv with hv1 hv2 hv3
      subst hv1
      subst hv3
      have i0 : (0 : Int) ≤ (i : Int) := by omega
      have i1 : (i : Int) < (l.length : Int) := by omega
      obtain ⟨ad2, e1, hx0⟩ := Kd.at_int HR.out (i : Int) i0 i1
      subst e1
      have hx := (HW.out.cell (World.block_lt_of_cell? w _ hx0)).trans hx0
      rw [Int.toNat_natCast] at hx
      have hrd : rd l (i : Int) = l[i] := by simp [rd, List.getD, hlt]
      obtain ⟨p, hpe⟩ : ∃ p, l[i] = p := ⟨_, rfl⟩
      rw [hrd, hpe] at hx
      have k4 : wr.cell? ⟨g4, 0, none⟩ = some (.bool pic) := (blk_cell B4.out 0).trans rfl
      have k5 : wr.cell? ⟨g5, 0, none⟩ = some (.bool bind) := (blk_cell B5.out 0).trans rfl
      have k6 : wr.cell? ⟨g6, 0, none⟩ = some (.int .i64 fl) := (blk_cell B6.out 0).trans rfl
      have f4 := blk_frozen B4.out 0
      have f5 := blk_frozen B5.out 0
      have f6 := blk_frozen B6.out 0
      have d45 : g4 ≠ g5 := by have := HG.out; omega
      have d46 : g4 ≠ g6 := by have := HG.out; omega
      have d56 : g5 ≠ g6 := by have := HG.out; omega
      have n4 := World.new_ne wr _ k4
      have n5 := World.new_ne wr _ k5
      have n6 := World.new_ne wr _ k6
      have hpr := HP.out p (by rw [← hpe]; exact List.getElem_mem hlt)
      have HCP := Aside0.mk (fun W => HC p W hpr.1 hpr.2)
      obtain ⟨c, hc⟩ : ∃ c, cc p = c := ⟨_, rfl⟩
      rw [hc] at HCP
      have q0 := eq_true i0
      have q1 := eq_true i1
      clear hx0 hrd hv2
      have hglt : g < wr.heap.size := Kd.R_lt HO.out g rfl
      have HPE := Aside0.mk hpe
      clear hpe
      go_upto_if 25 with (go_at_call 190; (with_reducible refine (HCP.out _).mono ?_); rintro e w6 ⟨rfl, ⟨nd, rfl⟩⟩; obtain ⟨gp, hgp⟩ : ∃ g, wr.heap.size = g := ⟨_, rfl⟩; have m4 := blk_drewN (blk_alloc B4.out (.cells #[.int .i64 p] 2)) nd; have m5 := blk_drewN (blk_alloc B5.out (.cells #[.int .i64 p] 2)) nd; have m6 := blk_drewN (blk_alloc B6.out (.cells #[.int .i64 p] 2)) nd; have mp := blk_drewN (blk_new wr (.cells #[.int .i64 p] 2)) nd; have mo := Kd.R_drewN (Kd.R_alloc HO.out (.cells #[.int .i64 p] 2)) nd; have mw := pw_below_drewN (below_alloc HW.out (.cells #[.int .i64 p] 2)) nd; have ms : ((wr.alloc (.cells #[.int .i64 p] 2)).drewN nd).heap.size = gp + 1 := (by rw [← hgp]; exact (by simp : (wr.alloc (.cells #[.int .i64 p] 2)).heap.size = wr.heap.size + 1)); obtain ⟨wq, hq⟩ : ∃ x, (wr.alloc (.cells #[.int .i64 p] 2)).drewN nd = x := ⟨_, rfl⟩; rw [hq] at m4 m5 m6 mp mo mw ms ⊢; clear hq; rw [hgp] at mp n4 n5 n6 hglt ⊢)
      have b4 := blk_alloc m4 (.cells #[.int .i64 c] 3)
      have b5 := blk_alloc m5 (.cells #[.int .i64 c] 3)
      have b6 := blk_alloc m6 (.cells #[.int .i64 c] 3)
      have bp := blk_alloc mp (.cells #[.int .i64 c] 3)
      have bc : (wq.alloc (.cells #[.int .i64 c] 3)).heap[gp + 1]? = some (.cells #[.int .i64 c] 3 (0, 0)) := by have := blk_new wq (.cells #[.int .i64 c] 3); rw [ms] at this; exact this
      have ro := Kd.R_alloc mo (.cells #[.int .i64 c] 3)
      have bw := below_alloc mw (.cells #[.int .i64 c] 3)
      have s1 : (wq.alloc (.cells #[.int .i64 c] 3)).heap.size = gp + 2 := by simp; omega
      obtain ⟨W1, hW1⟩ : ∃ x, wq.alloc (.cells #[.int .i64 c] 3) = x := ⟨_, rfl⟩
      rw [hW1] at b4 b5 b6 bp bc ro bw s1 ⊢
      clear hW1 ms m4 m5 m6 mp mo mw HO HW B4 B5 B6 k4 k5 k6 f4 f5 f6 hx
      have d4 : g4 ≠ gp := fun h => n4 h.symm
      have d5 : g5 ≠ gp := fun h => n5 h.symm
      have d6 : g6 ≠ gp := fun h => n6 h.symm
      have hgs := HG.out
      have HGP : Aside0 (g6 < gp) := ⟨by have := b6; have h6 : g6 < W1.heap.size := blk_lt b6; omega⟩
      clear n4 n5 n6
      have B4 := Aside0.mk b4
      have B5 := Aside0.mk b5
      have B6 := Aside0.mk b6
      have BP := Aside0.mk bp
      have BC := Aside0.mk bc
      have HO := Aside0.mk ro
      have HW := Aside0.mk bw
      have HS := Aside0.mk s1
      clear b4 b5 b6 bp bc ro bw s1
      go_cut [] (fun wx => ∃ b : Bool, Aside0 (b = impl_charCuts.cutO cc (if i = 0 then none else l[i - 1]?) pic bind fl p) ∧ Aside0 (wx.heap[g4]? = some (.cells #[.bool pic] 4 (0, 0))) ∧ Aside0 (wx.heap[g5]? = some (.cells #[.bool bind] 4 (0, 0))) ∧ Aside0 (wx.heap[g6]? = some (.cells #[.int .i64 fl] 3 (0, 0))) ∧ Aside0 (wx.heap[gp]? = some (.cells #[.int .i64 p] 2 (0, 0))) ∧ Aside0 (wx.heap[gp + 1]? = some (.cells #[.int .i64 c] 3 (0, 0))) ∧ Aside0 (Kd.R Kd.bool 4 wx w.heap.size (fun k => k ≠ g4 ∧ k ≠ g5 ∧ k ≠ g6) (.slice (some ⟨g, 0, none⟩) l.length c5) (out.set i b)) ∧ Aside0 (Below w.heap.size w wx))
      case first =>
        by_cases hz : i = 0
        · have hzb : decide (0 < i) = false := by rw [hz]; rfl
          go_wp2_with fail
          go_meet
          exact ⟨false, ⟨by rw [if_pos hz]; rfl⟩, B4, B5, B6, BP, BC, ⟨by rw [impl_charCuts.tail0 out l.length i HL.out.2 hlt]; exact HO.out⟩, HW⟩
        · have hzb : decide (0 < i) = true := decide_eq_true (by omega)
          have j0 : (0 : Int) ≤ (i : Int) - 1 := by omega
          have j1 : (i : Int) - 1 < (l.length : Int) := by omega
          obtain ⟨ad3, e3, hy0⟩ := Kd.at_int HR.out ((i : Int) - 1) j0 j1
          obtain rfl : ad2 = ad3 := Option.some.inj e3
          have hy := (HW.out.cell (World.block_lt_of_cell? w _ hy0)).trans hy0
          rw [show ((i : Int) - 1).toNat = i - 1 by omega] at hy
          obtain ⟨q, hq⟩ : ∃ q, rd l ((i : Int) - 1) = q := ⟨_, rfl⟩
          have hq2 : l[i - 1]? = some q := by
            rw [← hq]
            have : ((i : Int) - 1).toNat = i - 1 := by omega
            have h3 : i - 1 < l.length := by omega
            simp [rd, List.getD, this, h3]
          rw [hq] at hy
          have HQ2 := Aside0.mk hq2
          have hqr := HP.out q (List.mem_of_getElem? hq2)
          have HCQ := Aside0.mk (fun W => HC q W hqr.1 hqr.2)
          obtain ⟨d, hd⟩ : ∃ d, cc q = d := ⟨_, rfl⟩
          rw [hd] at HCQ
          have q2 := eq_true j0
          have q3 := eq_true j1
          clear hy0 e3 hq hq2
          go_upto_region 10 with (go_at_call 190; (with_reducible refine (HCQ.out _).mono ?_); rintro e w6 ⟨rfl, ⟨nd2, rfl⟩⟩)
          have e4 := blk_alloc (blk_drewN (blk_alloc B4.out (.cells #[.int .i64 q] 2)) nd2) (.cells #[.int .i64 d] 3)
          have e5 := blk_alloc (blk_drewN (blk_alloc B5.out (.cells #[.int .i64 q] 2)) nd2) (.cells #[.int .i64 d] 3)
          have e6 := blk_alloc (blk_drewN (blk_alloc B6.out (.cells #[.int .i64 q] 2)) nd2) (.cells #[.int .i64 d] 3)
          have ep := blk_alloc (blk_drewN (blk_alloc BP.out (.cells #[.int .i64 q] 2)) nd2) (.cells #[.int .i64 d] 3)
          have ec := blk_alloc (blk_drewN (blk_alloc BC.out (.cells #[.int .i64 q] 2)) nd2) (.cells #[.int .i64 d] 3)
          have hs1 := HS.out
          have eq_ : (((W1.alloc (.cells #[.int .i64 q] 2)).drewN nd2).alloc (.cells #[.int .i64 d] 3)).heap[gp + 2]? = some (.cells #[.int .i64 q] 2 (0, 0)) := by have := blk_alloc (blk_drewN (blk_new W1 (.cells #[.int .i64 q] 2)) nd2) (.cells #[.int .i64 d] 3); rw [hs1] at this; exact this
          have ed : (((W1.alloc (.cells #[.int .i64 q] 2)).drewN nd2).alloc (.cells #[.int .i64 d] 3)).heap[gp + 2 + 1]? = some (.cells #[.int .i64 d] 3 (0, 0)) := by
            have := blk_new ((W1.alloc (.cells #[.int .i64 q] 2)).drewN nd2) (.cells #[.int .i64 d] 3)
            rw [show ((W1.alloc (.cells #[.int .i64 q] 2)).drewN nd2).heap.size = gp + 2 + 1 by rw [← hs1]; exact (by simp : (W1.alloc (.cells #[.int .i64 q] 2)).heap.size = W1.heap.size + 1)] at this
            exact this
          have eo := Kd.R_alloc (Kd.R_drewN (Kd.R_alloc HO.out (.cells #[.int .i64 q] 2)) nd2) (.cells #[.int .i64 d] 3)
          have ew := below_alloc (pw_below_drewN (below_alloc HW.out (.cells #[.int .i64 q] 2)) nd2) (.cells #[.int .i64 d] 3)
          rw [hs1]
          obtain ⟨W4, hW4⟩ : ∃ x, (((W1.alloc (.cells #[.int .i64 q] 2)).drewN nd2).alloc (.cells #[.int .i64 d] 3)) = x := ⟨_, rfl⟩
          rw [hW4] at e4 e5 e6 ep ec eq_ ed eo ew ⊢
          clear hW4 hy B4 B5 B6 BP BC HO HW HS hs1
          have k0 := (blk_cell eq_ 0).trans rfl
          go_wp2_with (go_at_call 191; refine (impl_charCuts.inner _ _ _ _ _ _ _ q p c d fl bind pic _ _ ((blk_cell eq_ 0).trans rfl) ((blk_cell ep 0).trans rfl) ((blk_cell ec 0).trans rfl) ((blk_cell ed 0).trans rfl) ((blk_cell e5 0).trans rfl) ((blk_cell e4 0).trans rfl) ((blk_cell e6 0).trans rfl) hf0 (by omega) (HIN p)).mono ?_; rintro e w6 ⟨rfl, ⟨nd3, rfl⟩⟩; obtain ⟨hxs, hfs⟩ := Kd.R_celln false (Kd.R_drewN eo nd3) (i : Int) i0 i1; rw [Int.toNat_natCast] at hxs hfs)
          go_meet
          refine ⟨impl_charCuts.cut q p c d bind pic fl (decide (1536 ≤ p) && decide (p ≤ 1567)), ⟨?gx⟩, ⟨blk_far (blk_drewN e4 nd3) (fun h => hgn.1 h.symm) _⟩, ⟨blk_far (blk_drewN e5 nd3) (fun h => hgn.2.1 h.symm) _⟩, ⟨blk_far (blk_drewN e6 nd3) (fun h => hgn.2.2 h.symm) _⟩, ⟨blk_far (blk_drewN ep nd3) (by show gp ≠ g; omega) _⟩, ⟨blk_far (blk_drewN ec nd3) (by show gp + 1 ≠ g; omega) _⟩, ⟨?gr⟩, ⟨?gw⟩⟩
          case gr => have := Kd.R_putn (Kd.R_drewN eo nd3) (i : Int) (impl_charCuts.cut q p c d bind pic fl (decide (1536 ≤ p) && decide (p ≤ 1567))); rw [Int.toNat_natCast] at this; exact this
          case gw => exact below_set (pw_below_drewN ew nd3) hgb
          case gx => rw [if_neg hz, HQ2.out]; show _ = impl_charCuts.cut q p (cc p) (cc q) bind pic fl _; rw [hc, hd]
      case rest =>
        clear B4 B5 B6 BP BC HO HW HS
        obtain ⟨b, HX, B4, B5, B6, BP, BC, HO, HW⟩ := hcut
        have hgs := HG.out
        have hgp6 := HGP.out
        have k4 := (blk_cell B4.out 0).trans rfl
        have k5 := (blk_cell B5.out 0).trans rfl
        have k6 := (blk_cell B6.out 0).trans rfl
        have kp := (blk_cell BP.out 0).trans rfl
        have kc := (blk_cell BC.out 0).trans rfl
        have f4 := blk_frozen B4.out 0
        have f5 := blk_frozen B5.out 0
        have f6 := blk_frozen B6.out 0
        have d45 : g4 ≠ g5 := by omega
        have d46 : g4 ≠ g6 := by omega
        have d4p : g4 ≠ gp := by omega
        have d4c : g4 ≠ (gp + 1) := by omega
        have d54 : g5 ≠ g4 := by omega
        have d56 : g5 ≠ g6 := by omega
        have d5p : g5 ≠ gp := by omega
        have d5c : g5 ≠ (gp + 1) := by omega
        have d64 : g6 ≠ g4 := by omega
        have d65 : g6 ≠ g5 := by omega
        have d6p : g6 ≠ gp := by omega
        have d6c : g6 ≠ (gp + 1) := by omega
        have dp4 : gp ≠ g4 := by omega
        have dp5 : gp ≠ g5 := by omega
        have dp6 : gp ≠ g6 := by omega
        have dpc : gp ≠ (gp + 1) := by omega
        have dc4 : (gp + 1) ≠ g4 := by omega
        have dc5 : (gp + 1) ≠ g5 := by omega
        have dc6 : (gp + 1) ≠ g6 := by omega
        have dcp : (gp + 1) ≠ gp := by omega
        go_wp2_with fail
        all_goals
          have HE1 := impl_charCuts.step cc _ pic bind fl l out R i p hlt HPE.out HL.out.1 HE.out b HX.out
          have HD1 := impl_charCuts.tail1 out b l.length i HL.out.2
          rw [hc] at HE1
          exact impl_charCuts.leaf (pic := pic) (bind := bind) (fl := fl) (p := p) (c := c) hlt
            (by repeat (first | (with_reducible exact B4.out) | (with_reducible refine impl_charCuts.blk_one (v := .bool pic) ?_ _) | (with_reducible refine blk_far ?_ (by assumption) _)))
            (by repeat (first | (with_reducible exact B5.out) | (with_reducible refine impl_charCuts.blk_one (v := .bool bind) ?_ _) | (with_reducible refine blk_far ?_ (by assumption) _)))
            (by repeat (first | (with_reducible exact B6.out) | (with_reducible refine impl_charCuts.blk_one (v := .int .i64 fl) ?_ _) | (with_reducible refine blk_far ?_ (by assumption) _)))
            (by repeat (first | (with_reducible exact HO.out) | (with_reducible refine impl_charCuts.far ?_ (.inl rfl) _) | (with_reducible refine impl_charCuts.far ?_ (.inr (.inl rfl)) _) | (with_reducible refine impl_charCuts.far ?_ (.inr (.inr rfl)) _)))
            (by repeat (first | (with_reducible exact HW.out) | (with_reducible refine below_set ?_ (by omega))))
            HL.out.1 HD1 HE1 hf0 hf1
            (by first | (have h_ : (c != 2) = true := (by assumption); have h2 : c ≠ 2 := (by simpa using h_); rw [if_neg h2]) | (have h_ : (c != 2) = false := (by assumption); have h2 : c = 2 := (by simpa using h_); rw [if_pos h2]))
            (by first | (have a_ : p = 1584 := (by assumption); rw [a_]; rfl) | (have a_ : ¬ p = 1584 := (by assumption); have b_ : p = 1585 := (by assumption); rw [b_]; cases bind <;> rfl) | (have a_ : ¬ p = 1584 := (by assumption); have b_ : ¬ p = 1585 := (by assumption); simp [a_, b_]))
            (by first | (have h_ : (c == 9) = true := (by assumption); have h2 : c = 9 := (by simpa using h_); rw [if_pos h2]) | (have h_ : (c == 9) = false := (by assumption); have h2 : c ≠ 9 := (by simpa using h_); rw [if_neg h2]))
    · obtain rfl : i = l.length := by omega
      have hzb : decide (l.length < l.length) = false := decide_eq_false (by omega)
      have q1 : ((l.length : Int) < (l.length : Int)) = False := eq_false (by omega)
      go_wp2_with fail
      go_ret
      have hR : out = R := by
        have h1 := HE.out
        rw [List.drop_length, impl_charCuts.go, List.append_nil, ← HL.out.1, List.take_length] at h1
        exact h1
      exact ⟨_, rfl, hR ▸ Kd.R_mono HO.out (fun _ _ => trivial), HW.out⟩
theorem impl_charCuts.go_eq : ∀ (l : List Int) (prev : Option Int) (pic bind : Bool) (fl : Int), impl_charCuts.go YtiabgmddnddeiaaDoorChr.cc prev pic bind fl l = YtiabgmddnddeiaaDoorChr.go prev pic bind fl l
  | [], _, _, _, _ => rfl
  | p :: t, prev, pic, bind, fl => by
    rw [impl_charCuts.go, YtiabgmddnddeiaaDoorChr.go, impl_charCuts.go_eq t]
    congr 1
/-- where there is a cut of characters ahead of each point -/
def impl_charCuts.f (l0 : List Int) : Option (List Bool) := if l0.length ≤ 1000000000 ∧ (∀ p ∈ l0, 0 ≤ p ∧ p ≤ 1114111) then some (YtiabgmddnddeiaaDoorChr.go none false false 0 l0) else none
theorem impl_charCuts.calls (A0 : Option Addr) (c0 : Nat) (l0 : List Int) (r : List Bool) (w : World) (hr0 : Kd.C (Kd.int .i64) w A0 l0.length l0) (hc0 : l0.length ≤ c0) (h : impl_charCuts.f l0 = some r) :
    Calls Tryd.prog 115 #[.slice A0 l0.length c0] w fun e w' => ∃ v0_ : Value, e = .returned (v0_) ∧ Kd.R Kd.bool 4 w' w.heap.size (fun _ => True) v0_ r ∧ Below w.heap.size w w' := by
  unfold impl_charCuts.f at h
  split at h
  · rename_i hl
    refine impl_charCuts.run YtiabgmddnddeiaaDoorChr.cc (fun p W p0 p1 => W_impl_charClass.calls p _ W (if_pos ⟨p0, p1⟩)) (fun p V => impl_in.calls p 1536 1567 _ V ?_) A0 c0 l0 w hr0 hc0 hl.1 hl.2 r ?_
    · unfold impl_in.f
      by_cases g : 1536 ≤ p
      · rw [if_pos (show p ≥ 1536 from g), decide_eq_true g]; rfl
      · rw [if_neg (show ¬ p ≥ 1536 from g), decide_eq_false g]; rfl
    · rw [impl_charCuts.go_eq]; exact Option.some.inj h
  · cases h

/-! ### impl_placesOf: function 122 -/
def impl_placesOf.l0 : Nat → Int → List Bool → List Int → List (S121) → Int → Int → Option (List Int)
 | 0, _, _, _, _, _, _ => none
 | k + 1, x1, x2, x7, x13, x14, x15 => if x15 < x14 then (if 0 ≤ x15 then (if x15 < (x13.length : Int) then (if x15 > 0 then (if x15 < (x2.length : Int) then (if rdOf false x2 x15 = true then (if x7.length < 17592186044416 then (impl_placesOf.l0 k x1 x2 (x7 ++ [(rd_T121 x13 x15).f1]) x13 x14 (wrap64 (x15 + 1))) else (none)) else (impl_placesOf.l0 k x1 x2 x7 x13 x14 (wrap64 (x15 + 1)))) else (none)) else (impl_placesOf.l0 k x1 x2 x7 x13 x14 (wrap64 (x15 + 1)))) else (none)) else (none)) else (if x7.length < 17592186044416 then (some (x7 ++ [x1])) else (none))
def impl_placesOf.f (k : Nat) (l0 : List (S121)) (a1 : Int) (l2 : List Bool) : Option (List Int) := if a1 = 0 then (some ([] : List Int)) else (impl_placesOf.l0 k a1 l2 (([0] : List Int)) l0 (l0.length : Int) 0)
theorem impl_placesOf.mono_l : ∀ k, (∀ y0 y1 y2 y3 y4 y5, LeO (impl_placesOf.l0 k y0 y1 y2 y3 y4 y5) (impl_placesOf.l0 (k + 1) y0 y1 y2 y3 y4 y5))
 | 0 => fun _ _ _ _ _ _ r h => by simp [impl_placesOf.l0] at h
 | k + 1 => by
  have ih0 := impl_placesOf.mono_l k; intro y0 y1 y2 y3 y4 y5
  unfold impl_placesOf.l0
  repeat' first
  | (with_reducible exact ih0 _ _ _ _ _ _)
  | (with_reducible exact LeO.refl _)
  | (with_reducible exact LeO.none _)
  | (with_reducible refine LeO.ite ?_ ?_)
  | (with_reducible refine LeO.bind ?_ (fun _ => ?_))
  | exact ih0 _ _ _ _ _ _
  | exact LeO.none _
  | refine LeO.ite ?_ ?_
  | refine LeO.bind ?_ (fun _ => ?_)
theorem impl_placesOf.mono : ∀ a0 a1 a2 k, LeO (impl_placesOf.f k a0 a1 a2) (impl_placesOf.f (k + 1) a0 a1 a2) := by
 intro a0 a1 a2 k
 have ih0 := impl_placesOf.mono_l k
 unfold impl_placesOf.f
 repeat' first
   | (with_reducible exact ih0 _ _ _ _ _ _)
   | (with_reducible exact LeO.refl _)
   | (with_reducible exact LeO.none _)
   | (with_reducible refine LeO.ite ?_ ?_)
   | (with_reducible refine LeO.bind ?_ (fun _ => ?_))
   | exact ih0 _ _ _ _ _ _
   | exact LeO.none _
   | refine LeO.ite ?_ ?_
   | refine LeO.bind ?_ (fun _ => ?_)
set_option maxHeartbeats 8000000 in
set_option maxRecDepth 100000 in
theorem impl_placesOf.calls (k : Nat) (A0 : Option Addr) (c0 : Nat) (l0 : List (S121)) (a1 : Int) (A2 : Option Addr) (c2 : Nat) (l2 : List Bool) (r : List Int) (w : World) (hr0 : Kd.C k121 w A0 l0.length l0) (hc0 : l0.length ≤ c0) (hr2 : Kd.C Kd.bool w A2 l2.length l2) (hc2 : l2.length ≤ c2) (h : impl_placesOf.f k l0 a1 l2 = some r) :
  Calls Tryd.prog 122 #[.slice A0 l0.length c0, .int .i64 a1, .slice A2 l2.length c2] w fun e w' => ∃ v0_ : Value, e = .returned (v0_) ∧ Kd.R (Kd.int .i64) 2 w' w.heap.size (fun _ => True) v0_ r ∧ Below w.heap.size w w' := by
 have hu121 := Tryd.underlying121
 have HR0 := Aside0.mk hr0
 have HC0 := Aside0.mk hc0
 clear hr0 hc0
 have HR2 := Aside0.mk hr2
 have HC2 := Aside0.mk hc2
 clear hr2 hc2
 have HB := Aside0.mk (Below.refl w.heap.size w)
 have H : (if a1 = 0 then (some ([] : List Int)) else (impl_placesOf.l0 k a1 l2 (([0] : List Int)) l0 (l0.length : Int) 0)) = some r := h
 clear h
 by_cases c4 : a1 = 0
 ·rw [if_pos c4] at H
  have c4b0 : (a1 == 0) = true := beq_iff_eq.mpr c4; have c4b1 : (a1 != 0) = false := bne_eq_false_iff_eq.mpr c4; clear c4; obtain rfl := Option.some.inj H
  go_enter Tryd.func122, Tryd.ntmps122
  go_wp2
  go_ret
  exact ⟨_, by first | rfl | (simp [errW_none, errW_some] <;> rfl) | (simp [*, errW_none, errW_some] <;> rfl), by first | exact Kd.R_nil _ _ _ _ _ | exact Kd.N_nil _ _ _ _ _ | exact Kd.V_nil _ _ _ _ _ | exact Kd.Q_nil _ _ _ _ _ | exact Kd.S_nil _ _ _ _ _, belowA⟩
 rw [if_neg c4] at H
 have c4b0 : (a1 == 0) = false := beq_eq_false_iff_ne.mpr c4
 have c4b1 : (a1 != 0) = true := bne_iff_ne.mpr c4
 obtain ⟨y152, hy152⟩ : ∃ y_ : List Int, y_ = (([0] : List Int)) := ⟨_, rfl⟩
 replace H : (impl_placesOf.l0 k a1 l2 y152 l0 (l0.length : Int) 0) = some r := by first | (rw [hy152]; with_reducible exact H) | (have H2_ := (Option.bind_some _ _).symm.trans H; rw [hy152]; with_reducible exact H2_) | (have H2_ := (Option.bind_some _ _).symm.trans H; with_reducible exact H2_) | with_reducible exact H | (rw [hy152]; exact H) | exact H
 have Ny152 := Aside0.mk hy152
 clear hy152
 have H' := Aside0.mk H
 clear H
 go_enter Tryd.func122, Tryd.ntmps122
 go_wp2_with (first | ((with_reducible refine gate_dst (N := 12) rfl ?_); refine Kd.R_lit (Kd.int .i64) _ 2 ?hg (N := 12) ?hd (xs := ([0] : List Int)) (inner := [.int .i64 0]) (ok := fun _ => True) (okp := fun _ => True) ?hr ?hp (fun _ hk => hk) trivial (Below.refl _ _) (Nat.le_refl _) (by simp) ?_; (case hd => rfl); (case hg => rfl); (case hr => first | (go_simp; done) | (go_simp; rfl)); (case hp => exact (Reps.one (show Kd.M (Kd.int .i64) _ _ _ 0 [.int .i64 0] from rfl) (Reps.none _ _))); intro v153 w5 ho6 hb hg_ hnew_; clear hg_ hnew_; (first | rw [← Ny152.out] at ho6 | (simp only [Int.reduceToNat] at ho6; rw [← Ny152.out] at ho6)); have n0_ := Aside0.mk (Kd.R_lower ho6 (below_size (belowA))); have n1_ := Aside0.mk (below_step (belowA) hb); clear HB; have HO154 := n0_; have HB := n1_; clear n0_ n1_; clear hb ho6))
 go_loopg [7, 15] k (fun kq v7 v15 w' => ∃ (x7_1 : List Int) (x15_1 : Int), v15 = .int .i64 x15_1 ∧ Aside0 (impl_placesOf.l0 kq a1 l2 x7_1 l0 (l0.length : Int) x15_1 = some r) ∧ Aside0 (kq ≤ k) ∧ Aside0 (Kd.R (Kd.int .i64) 2 w' w.heap.size (fun _ => True) v7 x7_1) ∧ Aside0 (Below w.heap.size w w'))
 case atStart => exact ⟨(y152), (0), (by first | rfl | (simp; done) | (simp [*]; done)), H', ⟨Nat.le_refl _⟩, ⟨by (with_reducible repeat (first | apply Kd.R_alloc | apply Kd.R_drewN | apply Kd.R_drew)); exact HO154.out⟩, ⟨belowA⟩⟩
 case round =>
  clear H'
  try clear c1; try clear c2; try clear p2; try clear c4; try clear c4b0; try clear c4b1
  obtain ⟨x7_1, x15_1, rfl, HA, HK1, HO_7, HB⟩ := hrel
  cases gk with
  | zero => exact absurd HA.out (by simp [impl_placesOf.l0])
  | succ k1 =>
   have H := HA.out; clear HA; simp only [impl_placesOf.l0] at H
   by_cases c7 : x15_1 < (l0.length : Int)
   ·rw [if_pos c7] at H
    have c7b0 : decide (x15_1 < (l0.length : Int)) = true := decide_eq_true c7; clear c7
    by_cases c8 : 0 ≤ x15_1
    ·rw [if_pos c8] at H
     have c8b0 : decide (0 ≤ x15_1) = true := decide_eq_true c8; clear c8
     by_cases c9 : x15_1 < (l0.length : Int)
     ·rw [if_pos c9] at H
      have c9b0 : decide (x15_1 < (l0.length : Int)) = true := decide_eq_true c9; clear c9
      by_cases c10 : x15_1 > 0
      ·rw [if_pos c10] at H
       have c10b0 : decide (0 < x15_1) = true := decide_eq_true c10; clear c10
       by_cases c11 : x15_1 < (l2.length : Int)
       ·rw [if_pos c11] at H
        have c11b0 : decide (x15_1 < (l2.length : Int)) = true := decide_eq_true c11; clear c11; obtain ⟨bq12, hbq12⟩ : ∃ b_ : Bool, b_ = (rdOf false l2 x15_1) := ⟨_, rfl⟩
        replace H : (if bq12 = true then (if x7_1.length < 17592186044416 then (impl_placesOf.l0 k1 a1 l2 (x7_1 ++ [(rd_T121 l0 x15_1).f1]) l0 (l0.length : Int) (wrap64 (x15_1 + 1))) else (none)) else (impl_placesOf.l0 k1 a1 l2 x7_1 l0 (l0.length : Int) (wrap64 (x15_1 + 1)))) = some r := by rw [← hbq12] at H; exact H
        have Nbq12 := Aside0.mk hbq12; clear hbq12
        by_cases c13 : bq12 = true
        ·subst c13
         have H1 : (if x7_1.length < 17592186044416 then (impl_placesOf.l0 k1 a1 l2 (x7_1 ++ [(rd_T121 l0 x15_1).f1]) l0 (l0.length : Int) (wrap64 (x15_1 + 1))) else (none)) = some r := by rw [if_pos rfl] at H; exact H
         clear H; have H := H1; clear H1
         by_cases c14 : x7_1.length < 17592186044416
         ·rw [if_pos c14] at H
          have LMc14 := Aside0.mk c14; clear c14; obtain ⟨y158, hy158⟩ : ∃ y_ : List Int, y_ = (x7_1 ++ [(rd_T121 l0 x15_1).f1]) := ⟨_, rfl⟩
          replace H : (impl_placesOf.l0 k1 a1 l2 y158 l0 (l0.length : Int) (wrap64 (x15_1 + 1))) = some r := by first | (rw [hy158]; with_reducible exact H) | (have H2_ := (Option.bind_some _ _).symm.trans H; rw [hy158]; with_reducible exact H2_) | (have H2_ := (Option.bind_some _ _).symm.trans H; with_reducible exact H2_) | with_reducible exact H | (rw [hy158]; exact H) | exact H
          have Ny158 := Aside0.mk hy158; clear hy158; have H' := Aside0.mk H; clear H
          have p155 : 0 ≤ (x15_1 : Int) := of_decide_eq_true (by first | (with_reducible assumption) | assumption)
          have q155 : x15_1 < (l0.length : Int) := of_decide_eq_true (by first | (with_reducible assumption) | assumption)
          obtain ⟨ad155, e155, hx155_0, hx155_1, hx155_2, hx155_3⟩ := at_T121 HR0.out x15_1 p155 q155
          (try rw [← Nbq12.out] at hx155_3)
          cases e155; replace hx155_0 := (HB.out.cell (World.block_lt_of_cell? w _ hx155_0)).trans hx155_0; replace hx155_1 := (HB.out.cell (World.block_lt_of_cell? w _ hx155_1)).trans hx155_1; replace hx155_2 := (HB.out.cell (World.block_lt_of_cell? w _ hx155_2)).trans hx155_2; replace hx155_3 := (HB.out.cell (World.block_lt_of_cell? w _ hx155_3)).trans hx155_3; replace p155 := eq_true p155; replace q155 := eq_true q155
          go_wp2_with (first | ((with_reducible refine gate_dst (N := 9) rfl ?_); refine box_event ?hg (N := 9) ?hd (cs := #[.int .i64 0, .int .i64 0, .int .i64 0, .bool false]) (t := 121) ?hr ?_; (case hd => rfl); (case hg => rfl); (case hr => first | (go_simp; done) | (go_simp; rfl)); intro gb156 hg w15 hbox hb; have n0_ := Aside0.mk (Kd.R_below (by (with_reducible repeat (first | apply Kd.R_alloc | apply Kd.R_drewN | apply Kd.R_drew)); exact HO_7.out) hb); have n1_ := Aside0.mk (below_step (belowA) hb); have n2_ := Aside0.mk (hbox); have n3_ := Aside0.mk ((by rw [hg]; exact (below_size (belowA)) : w.heap.size ≤ gb156)); have n4_ := Aside0.mk ((by rw [hg]; exact (below_size (belowA)) : w.heap.size ≤ gb156)); clear HO_7; clear HB; have HO_7 := n0_; have HB := n1_; have BK156 := n2_; have GW156 := n3_; have GE156 := n4_; clear n0_ n1_ n2_ n3_ n4_; clear hb hbox hg; have hcz16_0 : w15.cell? ⟨gb156, 0, none⟩ = some (.int .i64 0) := (blk_cell BK156.out 0).trans rfl; have hcz16_1 : w15.cell? ⟨gb156, 1, none⟩ = some (.int .i64 0) := (blk_cell BK156.out 1).trans rfl; have hcz16_2 : w15.cell? ⟨gb156, 2, none⟩ = some (.int .i64 0) := (blk_cell BK156.out 2).trans rfl; have hcz16_3 : w15.cell? ⟨gb156, 3, none⟩ = some (.bool false) := (blk_cell BK156.out 3).trans rfl; have hfz16_0 := blk_frozen BK156.out 0; have hfz16_1 := blk_frozen BK156.out 1; have hfz16_2 := blk_frozen BK156.out 2; have hfz16_3 := blk_frozen BK156.out 3; have p157 : 0 ≤ (x15_1 : Int) := of_decide_eq_true (by first | (with_reducible assumption) | assumption); have q157 : x15_1 < (l2.length : Int) := of_decide_eq_true (by first | (with_reducible assumption) | assumption); obtain ⟨ad157, e157, hx157_0⟩ := Kd.at_bool HR2.out x15_1 p157 q157; (try rw [← Nbq12.out] at hx157_0); cases e157; have hn157_0 : ad157.block ≠ gb156 := Nat.ne_of_lt (Nat.lt_of_lt_of_le (by have := World.block_lt_of_cell? _ _ hx157_0; first | rwa [add_block] at this | exact this) GW156.out); have hn157_1 : ad157.block ≠ gb156 := Nat.ne_of_lt (Nat.lt_of_lt_of_le (by have := World.block_lt_of_cell? _ _ hx157_0; first | rwa [add_block] at this | exact this) GW156.out); have hn157_2 : ad157.block ≠ gb156 := Nat.ne_of_lt (Nat.lt_of_lt_of_le (by have := World.block_lt_of_cell? _ _ hx157_0; first | rwa [add_block] at this | exact this) GW156.out); have hn157_3 : ad157.block ≠ gb156 := Nat.ne_of_lt (Nat.lt_of_lt_of_le (by have := World.block_lt_of_cell? _ _ hx157_0; first | rwa [add_block] at this | exact this) GW156.out); replace hx157_0 := (HB.out.cell (World.block_lt_of_cell? w _ hx157_0)).trans hx157_0; replace hx157_0 := (cell_far (p := ⟨gb156, 0, none⟩) (by first | (rw [add_block]; exact hn157_0) | (show (Addr.add _ _).block ≠ _; rw [add_block]; exact hn157_0) | exact hn157_0) (.int .i64 ((rd_T121 l0 x15_1).f0))).trans hx157_0; replace hx157_0 := (cell_far (p := ⟨gb156, 1, none⟩) (by first | (rw [add_block]; exact hn157_1) | (show (Addr.add _ _).block ≠ _; rw [add_block]; exact hn157_1) | exact hn157_1) (.int .i64 ((rd_T121 l0 x15_1).f1))).trans hx157_0; replace hx157_0 := (cell_far (p := ⟨gb156, 2, none⟩) (by first | (rw [add_block]; exact hn157_2) | (show (Addr.add _ _).block ≠ _; rw [add_block]; exact hn157_2) | exact hn157_2) (.int .i64 ((rd_T121 l0 x15_1).f2))).trans hx157_0; replace hx157_0 := (cell_far (p := ⟨gb156, 3, none⟩) (by first | (rw [add_block]; exact hn157_3) | (show (Addr.add _ _).block ≠ _; rw [add_block]; exact hn157_3) | exact hn157_3) (.bool ((rd_T121 l0 x15_1).f3))).trans hx157_0; clear hn157_0; clear hn157_1; clear hn157_2; clear hn157_3; replace p157 := eq_true p157; replace q157 := eq_true q157) | ((with_reducible refine gate_builtin (b := .append) (xs := #[.tmp 28, .tmp 31]) rfl ?_); at_builtin; refine Kd.R_append (Kd.int .i64) (w0 := w) w.heap.size rfl (.tmp 28) (.tmp 31) 28 2 (.int .i64 0) 8 rfl Tryd.underlying28 info2 rfl (by decide) (by omega) u7 x7_1 ((rd_T121 l0 x15_1).f1) [.int .i64 ((rd_T121 l0 x15_1).f1)] (fun _ => True) (fun _ => False) rfl (by first | (go_simp; done) | (go_simp; rfl)) ?aP (fun _ hk => hk.elim) ?aF ?aO ?aB ?aS ?aL ?_; (case aP => exact rfl); (case aB => exact (by repeat (first | (with_reducible first | exact HB.out | apply below_alloc | apply pw_below_drewN | apply below_drew1 | refine below_set ?_ GE156.out) | exact HB.out))); (case aF => exact (fun _ _ => trivial)); (case aO => exact (by (with_reducible repeat (first | apply Kd.R_alloc | apply Kd.R_drewN | apply Kd.R_drew)); exact Kd.R_mono (Kd.R_far (p := ⟨gb156, 3, none⟩) (Kd.R_far (p := ⟨gb156, 2, none⟩) (Kd.R_far (p := ⟨gb156, 1, none⟩) (Kd.R_far (p := ⟨gb156, 0, none⟩) (Kd.R_types HO_7.out BK156.out (by decide)) (fun _ hk => hk.2) (.int .i64 ((rd_T121 l0 x15_1).f0))) (fun _ hk => hk.2) (.int .i64 ((rd_T121 l0 x15_1).f1))) (fun _ hk => hk.2) (.int .i64 ((rd_T121 l0 x15_1).f2))) (fun _ hk => hk.2) (.bool ((rd_T121 l0 x15_1).f3))) (fun _ hk => trivial))); (case aS => exact (below_size (by repeat (first | (with_reducible first | exact HB.out | apply below_alloc | apply pw_below_drewN | apply below_drew1 | refine below_set ?_ GE156.out) | exact HB.out)))); (case aL => have := LMc14.out; omega); intro v159 w17 ho hb hg hat; rw [← Ny158.out] at ho; have n0_ := Aside0.mk (blk_grown (g := gb156) (o := .cells #[.int .i64 ((rd_T121 l0 x15_1).f0), .int .i64 ((rd_T121 l0 x15_1).f1), .int .i64 ((rd_T121 l0 x15_1).f2), .bool ((rd_T121 l0 x15_1).f3)] 121 (0, 0)) (by (with_reducible repeat (first | refine blk_drewN ?_ _ | refine blk_drew ?_ | refine blk_alloc ?_ _)); refine blk_put (cs := #[.int .i64 ((rd_T121 l0 x15_1).f0), .int .i64 ((rd_T121 l0 x15_1).f1), .int .i64 ((rd_T121 l0 x15_1).f2), .bool false]) ?_ 3 _ rfl; (with_reducible repeat (first | refine blk_drewN ?_ _ | refine blk_drew ?_ | refine blk_alloc ?_ _)); refine blk_put (cs := #[.int .i64 ((rd_T121 l0 x15_1).f0), .int .i64 ((rd_T121 l0 x15_1).f1), .int .i64 0, .bool false]) ?_ 2 _ rfl; (with_reducible repeat (first | refine blk_drewN ?_ _ | refine blk_drew ?_ | refine blk_alloc ?_ _)); refine blk_put (cs := #[.int .i64 ((rd_T121 l0 x15_1).f0), .int .i64 0, .int .i64 0, .bool false]) ?_ 1 _ rfl; (with_reducible repeat (first | refine blk_drewN ?_ _ | refine blk_drew ?_ | refine blk_alloc ?_ _)); refine blk_put (cs := #[.int .i64 0, .int .i64 0, .int .i64 0, .bool false]) ?_ 0 _ rfl; (with_reducible repeat (first | refine blk_drewN ?_ _ | refine blk_drew ?_ | refine blk_alloc ?_ _)); exact BK156.out) hg (Kd.R_ne HO_7.out BK156.out (by decide))); have n1_ := Aside0.mk (hb); have n2_ := Aside0.mk (ho); clear BK156; clear HB; clear HO_7; have BK156 := n0_; have HB := n1_; have HO160 := n2_; clear n0_ n1_ n2_; clear ho hb hg hat))
          go_roundg k1
          case measure => have := HK1.out; omega
          case rel => exact ⟨(y158), (wrap64 (x15_1 + 1)), (by first | rfl | (simp; done) | (simp [*]; done)), H', ⟨by have := HK1.out; omega⟩, ⟨by (with_reducible repeat (first | apply Kd.R_alloc | apply Kd.R_drewN | apply Kd.R_drew)); exact HO160.out⟩, ⟨by repeat (first | (with_reducible first | exact HB.out | apply below_alloc | apply pw_below_drewN | apply below_drew1 | refine below_set ?_ GE156.out) | exact HB.out)⟩⟩
         rw [if_neg c14] at H
         exact absurd H (by simp)
        replace c13 := Bool.eq_false_iff.mpr c13; subst c13
        have H1 : (impl_placesOf.l0 k1 a1 l2 x7_1 l0 (l0.length : Int) (wrap64 (x15_1 + 1))) = some r := by rw [if_neg (show ¬ (false = true) by decide)] at H; exact H
        clear H; have H := H1; clear H1; have H' := Aside0.mk H; clear H
        have p155 : 0 ≤ (x15_1 : Int) := of_decide_eq_true (by first | (with_reducible assumption) | assumption)
        have q155 : x15_1 < (l0.length : Int) := of_decide_eq_true (by first | (with_reducible assumption) | assumption)
        obtain ⟨ad155, e155, hx155_0, hx155_1, hx155_2, hx155_3⟩ := at_T121 HR0.out x15_1 p155 q155
        (try rw [← Nbq12.out] at hx155_3)
        cases e155; replace hx155_0 := (HB.out.cell (World.block_lt_of_cell? w _ hx155_0)).trans hx155_0; replace hx155_1 := (HB.out.cell (World.block_lt_of_cell? w _ hx155_1)).trans hx155_1; replace hx155_2 := (HB.out.cell (World.block_lt_of_cell? w _ hx155_2)).trans hx155_2; replace hx155_3 := (HB.out.cell (World.block_lt_of_cell? w _ hx155_3)).trans hx155_3; replace p155 := eq_true p155; replace q155 := eq_true q155
        go_wp2_with (first | ((with_reducible refine gate_dst (N := 9) rfl ?_); refine box_event ?hg (N := 9) ?hd (cs := #[.int .i64 0, .int .i64 0, .int .i64 0, .bool false]) (t := 121) ?hr ?_; (case hd => rfl); (case hg => rfl); (case hr => first | (go_simp; done) | (go_simp; rfl)); intro gb156 hg w18 hbox hb; have n0_ := Aside0.mk (Kd.R_below (by (with_reducible repeat (first | apply Kd.R_alloc | apply Kd.R_drewN | apply Kd.R_drew)); exact HO_7.out) hb); have n1_ := Aside0.mk (below_step (belowA) hb); have n2_ := Aside0.mk (hbox); have n3_ := Aside0.mk ((by rw [hg]; exact (below_size (belowA)) : w.heap.size ≤ gb156)); have n4_ := Aside0.mk ((by rw [hg]; exact (below_size (belowA)) : w.heap.size ≤ gb156)); clear HO_7; clear HB; have HO_7 := n0_; have HB := n1_; have BK156 := n2_; have GW156 := n3_; have GE156 := n4_; clear n0_ n1_ n2_ n3_ n4_; clear hb hbox hg; have hcz19_0 : w18.cell? ⟨gb156, 0, none⟩ = some (.int .i64 0) := (blk_cell BK156.out 0).trans rfl; have hcz19_1 : w18.cell? ⟨gb156, 1, none⟩ = some (.int .i64 0) := (blk_cell BK156.out 1).trans rfl; have hcz19_2 : w18.cell? ⟨gb156, 2, none⟩ = some (.int .i64 0) := (blk_cell BK156.out 2).trans rfl; have hcz19_3 : w18.cell? ⟨gb156, 3, none⟩ = some (.bool false) := (blk_cell BK156.out 3).trans rfl; have hfz19_0 := blk_frozen BK156.out 0; have hfz19_1 := blk_frozen BK156.out 1; have hfz19_2 := blk_frozen BK156.out 2; have hfz19_3 := blk_frozen BK156.out 3; have p157 : 0 ≤ (x15_1 : Int) := of_decide_eq_true (by first | (with_reducible assumption) | assumption); have q157 : x15_1 < (l2.length : Int) := of_decide_eq_true (by first | (with_reducible assumption) | assumption); obtain ⟨ad157, e157, hx157_0⟩ := Kd.at_bool HR2.out x15_1 p157 q157; (try rw [← Nbq12.out] at hx157_0); cases e157; have hn157_0 : ad157.block ≠ gb156 := Nat.ne_of_lt (Nat.lt_of_lt_of_le (by have := World.block_lt_of_cell? _ _ hx157_0; first | rwa [add_block] at this | exact this) GW156.out); have hn157_1 : ad157.block ≠ gb156 := Nat.ne_of_lt (Nat.lt_of_lt_of_le (by have := World.block_lt_of_cell? _ _ hx157_0; first | rwa [add_block] at this | exact this) GW156.out); have hn157_2 : ad157.block ≠ gb156 := Nat.ne_of_lt (Nat.lt_of_lt_of_le (by have := World.block_lt_of_cell? _ _ hx157_0; first | rwa [add_block] at this | exact this) GW156.out); have hn157_3 : ad157.block ≠ gb156 := Nat.ne_of_lt (Nat.lt_of_lt_of_le (by have := World.block_lt_of_cell? _ _ hx157_0; first | rwa [add_block] at this | exact this) GW156.out); replace hx157_0 := (HB.out.cell (World.block_lt_of_cell? w _ hx157_0)).trans hx157_0; replace hx157_0 := (cell_far (p := ⟨gb156, 0, none⟩) (by first | (rw [add_block]; exact hn157_0) | (show (Addr.add _ _).block ≠ _; rw [add_block]; exact hn157_0) | exact hn157_0) (.int .i64 ((rd_T121 l0 x15_1).f0))).trans hx157_0; replace hx157_0 := (cell_far (p := ⟨gb156, 1, none⟩) (by first | (rw [add_block]; exact hn157_1) | (show (Addr.add _ _).block ≠ _; rw [add_block]; exact hn157_1) | exact hn157_1) (.int .i64 ((rd_T121 l0 x15_1).f1))).trans hx157_0; replace hx157_0 := (cell_far (p := ⟨gb156, 2, none⟩) (by first | (rw [add_block]; exact hn157_2) | (show (Addr.add _ _).block ≠ _; rw [add_block]; exact hn157_2) | exact hn157_2) (.int .i64 ((rd_T121 l0 x15_1).f2))).trans hx157_0; replace hx157_0 := (cell_far (p := ⟨gb156, 3, none⟩) (by first | (rw [add_block]; exact hn157_3) | (show (Addr.add _ _).block ≠ _; rw [add_block]; exact hn157_3) | exact hn157_3) (.bool ((rd_T121 l0 x15_1).f3))).trans hx157_0; clear hn157_0; clear hn157_1; clear hn157_2; clear hn157_3; replace p157 := eq_true p157; replace q157 := eq_true q157))
        go_roundg k1
        case measure => have := HK1.out; omega
        case rel => exact ⟨(x7_1), (wrap64 (x15_1 + 1)), (by first | rfl | (simp; done) | (simp [*]; done)), H', ⟨by have := HK1.out; omega⟩, ⟨by (with_reducible repeat (first | apply Kd.R_alloc | apply Kd.R_drewN | apply Kd.R_drew)); exact Kd.R_mono (Kd.R_far (p := ⟨gb156, 3, none⟩) (Kd.R_far (p := ⟨gb156, 2, none⟩) (Kd.R_far (p := ⟨gb156, 1, none⟩) (Kd.R_far (p := ⟨gb156, 0, none⟩) (Kd.R_types HO_7.out BK156.out (by decide)) (fun _ hk => hk.2) (.int .i64 ((rd_T121 l0 x15_1).f0))) (fun _ hk => hk.2) (.int .i64 ((rd_T121 l0 x15_1).f1))) (fun _ hk => hk.2) (.int .i64 ((rd_T121 l0 x15_1).f2))) (fun _ hk => hk.2) (.bool ((rd_T121 l0 x15_1).f3))) (fun _ hk => trivial)⟩, ⟨by repeat (first | (with_reducible first | exact HB.out | apply below_alloc | apply pw_below_drewN | apply below_drew1 | refine below_set ?_ GE156.out) | exact HB.out)⟩⟩
       rw [if_neg c11] at H
       exact absurd H (by simp)
      rw [if_neg c10] at H; have c10b0 : decide (0 < x15_1) = false := decide_eq_false c10; clear c10; have H' := Aside0.mk H; clear H
      have p155 : 0 ≤ (x15_1 : Int) := of_decide_eq_true (by first | (with_reducible assumption) | assumption)
      have q155 : x15_1 < (l0.length : Int) := of_decide_eq_true (by first | (with_reducible assumption) | assumption)
      obtain ⟨ad155, e155, hx155_0, hx155_1, hx155_2, hx155_3⟩ := at_T121 HR0.out x15_1 p155 q155; cases e155; replace hx155_0 := (HB.out.cell (World.block_lt_of_cell? w _ hx155_0)).trans hx155_0; replace hx155_1 := (HB.out.cell (World.block_lt_of_cell? w _ hx155_1)).trans hx155_1; replace hx155_2 := (HB.out.cell (World.block_lt_of_cell? w _ hx155_2)).trans hx155_2; replace hx155_3 := (HB.out.cell (World.block_lt_of_cell? w _ hx155_3)).trans hx155_3; replace p155 := eq_true p155; replace q155 := eq_true q155
      go_wp2_with (first | ((with_reducible refine gate_dst (N := 9) rfl ?_); refine box_event ?hg (N := 9) ?hd (cs := #[.int .i64 0, .int .i64 0, .int .i64 0, .bool false]) (t := 121) ?hr ?_; (case hd => rfl); (case hg => rfl); (case hr => first | (go_simp; done) | (go_simp; rfl)); intro gb156 hg w20 hbox hb; have n0_ := Aside0.mk (Kd.R_below (by (with_reducible repeat (first | apply Kd.R_alloc | apply Kd.R_drewN | apply Kd.R_drew)); exact HO_7.out) hb); have n1_ := Aside0.mk (below_step (belowA) hb); have n2_ := Aside0.mk (hbox); have n3_ := Aside0.mk ((by rw [hg]; exact (below_size (belowA)) : w.heap.size ≤ gb156)); have n4_ := Aside0.mk ((by rw [hg]; exact (below_size (belowA)) : w.heap.size ≤ gb156)); clear HO_7; clear HB; have HO_7 := n0_; have HB := n1_; have BK156 := n2_; have GW156 := n3_; have GE156 := n4_; clear n0_ n1_ n2_ n3_ n4_; clear hb hbox hg; have hcz21_0 : w20.cell? ⟨gb156, 0, none⟩ = some (.int .i64 0) := (blk_cell BK156.out 0).trans rfl; have hcz21_1 : w20.cell? ⟨gb156, 1, none⟩ = some (.int .i64 0) := (blk_cell BK156.out 1).trans rfl; have hcz21_2 : w20.cell? ⟨gb156, 2, none⟩ = some (.int .i64 0) := (blk_cell BK156.out 2).trans rfl; have hcz21_3 : w20.cell? ⟨gb156, 3, none⟩ = some (.bool false) := (blk_cell BK156.out 3).trans rfl; have hfz21_0 := blk_frozen BK156.out 0; have hfz21_1 := blk_frozen BK156.out 1; have hfz21_2 := blk_frozen BK156.out 2; have hfz21_3 := blk_frozen BK156.out 3))
      go_roundg k1
      case measure => have := HK1.out; omega
      case rel => exact ⟨(x7_1), (wrap64 (x15_1 + 1)), (by first | rfl | (simp; done) | (simp [*]; done)), H', ⟨by have := HK1.out; omega⟩, ⟨by (with_reducible repeat (first | apply Kd.R_alloc | apply Kd.R_drewN | apply Kd.R_drew)); exact Kd.R_mono (Kd.R_far (p := ⟨gb156, 3, none⟩) (Kd.R_far (p := ⟨gb156, 2, none⟩) (Kd.R_far (p := ⟨gb156, 1, none⟩) (Kd.R_far (p := ⟨gb156, 0, none⟩) (Kd.R_types HO_7.out BK156.out (by decide)) (fun _ hk => hk.2) (.int .i64 ((rd_T121 l0 x15_1).f0))) (fun _ hk => hk.2) (.int .i64 ((rd_T121 l0 x15_1).f1))) (fun _ hk => hk.2) (.int .i64 ((rd_T121 l0 x15_1).f2))) (fun _ hk => hk.2) (.bool ((rd_T121 l0 x15_1).f3))) (fun _ hk => trivial)⟩, ⟨by repeat (first | (with_reducible first | exact HB.out | apply below_alloc | apply pw_below_drewN | apply below_drew1 | refine below_set ?_ GE156.out) | exact HB.out)⟩⟩
     rw [if_neg c9] at H
     exact absurd H (by simp)
    rw [if_neg c8] at H
    exact absurd H (by simp)
   rw [if_neg c7] at H; have c7b0 : decide (x15_1 < (l0.length : Int)) = false := decide_eq_false c7; clear c7
   by_cases c22 : x7_1.length < 17592186044416
   ·rw [if_pos c22] at H
    have LMc22 := Aside0.mk c22; clear c22; obtain ⟨y161, hy161⟩ : ∃ y_ : List Int, y_ = (x7_1 ++ [a1]) := ⟨_, rfl⟩
    replace H : (some y161) = some r := by first | (rw [hy161]; with_reducible exact H) | (have H2_ := (Option.bind_some _ _).symm.trans H; rw [hy161]; with_reducible exact H2_) | (have H2_ := (Option.bind_some _ _).symm.trans H; with_reducible exact H2_) | with_reducible exact H | (rw [hy161]; exact H) | exact H
    have Ny161 := Aside0.mk hy161; clear hy161; obtain rfl := Option.some.inj H
    go_wp2_with (first | ((with_reducible refine gate_builtin (b := .append) (xs := #[.tmp 34, .tmp 36]) rfl ?_); at_builtin; refine Kd.R_append (Kd.int .i64) (w0 := w) w.heap.size rfl (.tmp 34) (.tmp 36) 28 2 (.int .i64 0) 8 rfl Tryd.underlying28 info2 rfl (by decide) (by omega) u7 x7_1 a1 [.int .i64 a1] (fun _ => True) (fun _ => False) rfl rfl ?aP (fun _ hk => hk.elim) ?aF ?aO ?aB ?aS ?aL ?_; (case aP => exact rfl); (case aB => exact (belowA)); (case aF => exact (fun _ _ => trivial)); (case aO => exact (by (with_reducible repeat (first | apply Kd.R_alloc | apply Kd.R_drewN | apply Kd.R_drew)); exact HO_7.out)); (case aS => exact (below_size (belowA))); (case aL => have := LMc22.out; omega); intro v162 w23 ho hb hg hat; rw [← Ny161.out] at ho; have n0_ := Aside0.mk (hb); have n1_ := Aside0.mk (ho); clear HB; clear HO_7; have HB := n0_; have HO163 := n1_; clear n0_ n1_; clear ho hb hg hat))
    go_ret
    exact ⟨_, by first | rfl | (simp [errW_none, errW_some] <;> rfl) | (simp [*, errW_none, errW_some] <;> rfl), by (with_reducible repeat (first | apply Kd.R_alloc | apply Kd.R_drewN | apply Kd.R_drew)); exact HO163.out, belowA⟩
   rw [if_neg c22] at H
   exact absurd H (by simp)

theorem impl_placesOf.run (n : Int) (l : List (S121)) (C : List Bool) (hC : l.length ≤ C.length) (hl : l.length ≤ 1000000000) (d : Nat) : ∀ (k i : Nat) (acc : List Int), i ≤ l.length → l.length - i = d → d < k → acc.length + d ≤ 2000000000 → (i = 0 → ∀ h : 0 < C.length, C[0] = false) →
    impl_placesOf.l0 k n C acc l (l.length : Int) (i : Int) = some (acc ++ YtiabgmddnddeiaaDoorChr.sel ((l.map fun x => x.f1).drop i) (C.drop i) ++ [n]) := by
  induction d with
  | zero =>
    intro k i acc h1 h2 h3 h4 h5
    obtain ⟨k, rfl⟩ : ∃ m, k = m + 1 := ⟨k - 1, by omega⟩
    simp only [impl_placesOf.l0]
    rw [if_neg (by omega), if_pos (by omega), show (l.map fun x => x.f1).drop i = [] from List.drop_eq_nil_of_le (by rw [List.length_map]; omega)]
    simp [YtiabgmddnddeiaaDoorChr.sel]
  | succ d ih =>
    intro k i acc h1 h2 h3 h4 h5
    obtain ⟨k, rfl⟩ : ∃ m, k = m + 1 := ⟨k - 1, by omega⟩
    have hlt : i < l.length := by omega
    have hw : wrap64 ((i : Int) + 1) = ((i + 1 : Nat) : Int) := by unfold wrap64; omega
    have hr : rd_T121 l (i : Int) = l[i] := by simp [rd_T121, List.getD, hlt]
    have hi : i < C.length := by omega
    have hc : rdOf false C (i : Int) = C[i] := by simp [rdOf, List.getD, hi]
    simp only [impl_placesOf.l0]
    rw [if_pos (by omega), if_pos (by omega), if_pos (by omega), YtiabgmddnddeiaaDoorChr.sel_drop (by rw [List.length_map]; exact hlt) hi, List.getElem_map, hw]
    by_cases h0 : i = 0
    · have hf := h5 h0 (by omega)
      have hf2 : C[i] = false := by simp only [h0]; exact hf
      rw [if_neg (by omega), hf2, if_neg (by decide), ih k (i + 1) acc (by omega) (by omega) (by omega) (by omega) (fun z => by omega)]
      rfl
    · rw [if_pos (by omega), if_pos (by omega), hc]
      by_cases g : C[i] = true
      · rw [if_pos g, if_pos g, if_pos (by omega), hr, ih k (i + 1) _ (by omega) (by omega) (by omega) (by rw [List.length_append]; simp only [List.length_cons, List.length_nil]; omega) (fun z => by omega)]
        simp
      · rw [if_neg g, if_neg g, ih k (i + 1) acc (by omega) (by omega) (by omega) (by omega) (fun z => by omega)]
        rfl

/-! ### impl_charPlaces: function 136 -/
def impl_charPlaces.f (k : Nat) (a0 : ByteArray) : Option (List Int) := (W_impl_read.f a0).bind fun t164 => ((impl_onlyPoints.f k t164).bind fun t167 => ((impl_charCuts.f t167).bind fun t170 => ((impl_placesOf.f k t164 (a0.size : Int) t170).bind fun t173 => (some t173))))
theorem impl_charPlaces.mono : ∀ a0 k, LeO (impl_charPlaces.f k a0) (impl_charPlaces.f (k + 1) a0) := by
 intro a0 k
 unfold impl_charPlaces.f
 repeat' first
   | (with_reducible exact impl_onlyPoints.mono _ _)
   | (with_reducible exact impl_placesOf.mono _ _ _ _)
   | (with_reducible exact LeO.refl _)
   | (with_reducible exact LeO.none _)
   | (with_reducible refine LeO.ite ?_ ?_)
   | (with_reducible refine LeO.bind ?_ (fun _ => ?_))
   | exact impl_onlyPoints.mono _ _
   | exact impl_placesOf.mono _ _ _ _
   | exact LeO.none _
   | refine LeO.ite ?_ ?_
   | refine LeO.bind ?_ (fun _ => ?_)
set_option maxHeartbeats 8000000 in
set_option maxRecDepth 100000 in
theorem impl_charPlaces.calls (k : Nat) (a0 : ByteArray) (r : List Int) (w : World) (h : impl_charPlaces.f k a0 = some r) (hG : GT w) :
  Calls Tryd.prog 136 #[.string a0] w fun e w' => ∃ v0_ : Value, e = .returned (v0_) ∧ Kd.R (Kd.int .i64) 2 w' w.heap.size (fun _ => True) v0_ r ∧ Below w.heap.size w w' := by
 have HG := Aside0.mk hG
 clear hG
 have HB := Aside0.mk (Below.refl w.heap.size w)
 have H : ((W_impl_read.f a0).bind fun t164 => ((impl_onlyPoints.f k t164).bind fun t167 => ((impl_charCuts.f t167).bind fun t170 => ((impl_placesOf.f k t164 (a0.size : Int) t170).bind fun t173 => (some t173))))) = some r := h
 clear h
 replace H := Option.bind_eq_some_iff.mp H
 obtain ⟨t164, A20, H⟩ := H
 try dsimp only at H
 have A2 := Aside0.mk A20
 clear A20
 replace H := Option.bind_eq_some_iff.mp H
 obtain ⟨t167, A30, H⟩ := H
 try dsimp only at H
 have A3 := Aside0.mk A30
 clear A30
 replace H := Option.bind_eq_some_iff.mp H
 obtain ⟨t170, A40, H⟩ := H
 try dsimp only at H
 have A4 := Aside0.mk A40
 clear A40
 replace H := Option.bind_eq_some_iff.mp H
 obtain ⟨t173, A50, H⟩ := H
 try dsimp only at H
 have A5 := Aside0.mk A50
 clear A50
 obtain rfl := Option.some.inj H
 go_enter Tryd.func136, Tryd.ntmps136
 go_wp2_with (first | ((with_reducible refine gate_callee (f := 113) rfl ?_); refine goesL_ (some 5) rfl rfl Tryd.func113 (by kernel_rfl) rfl #[.string a0] rfl (by (try simp only [List.map_toArray, List.map_cons, List.map_nil]); first | done | rfl) ?_; (with_reducible refine (W_impl_read.calls a0 t164 _ A2.out (by first | exact HG.out | exact GT.below HG.out (by first | exact HB.out | (repeat (first | (with_reducible first | exact HB.out | apply below_alloc | apply pw_below_drewN | apply below_drew1 | refine below_set ?_ (Aside0.out (by assumption))) | exact HB.out))) | exact GT.below HG.out (HB.out))).mono ?_); rintro e w6 ⟨v165, rfl, ho0, hb⟩; refine ⟨_, rfl, ?_⟩; have n0_ := Aside0.mk (Kd.R_lower ho0 (below_size (belowA))); have n1_ := Aside0.mk (below_step (belowA) hb); clear HB; have HO166 := n0_; have HB := n1_; clear n0_ n1_; (try clear hb); (try clear hb2); (try clear hk); (try clear hi); (try clear ho0); obtain ⟨Ao7, co7, eo7⟩ := Kd.R_slice HO166.out; subst eo7) | ((with_reducible refine gate_callee (f := 114) rfl ?_); refine goesL_ (some 10) rfl rfl Tryd.func114 (by kernel_rfl) rfl #[.slice Ao7 t164.length co7] rfl (by (try simp only [List.map_toArray, List.map_cons, List.map_nil]); first | done | rfl) ?_; (with_reducible refine (impl_onlyPoints.calls k _ _ t164 t167 _ ?side1 ?side2 A3.out).mono ?_); (case side1 => repeat (first | exact (Kd.R_reads' HO166.out).2.2 | (with_reducible refine Kd.C_alloc ?_ _) | (with_reducible refine Kd.C_drewN ?_ _) | (with_reducible refine Kd.C_drew ?_))); (case side2 => exact (Kd.R_reads' HO166.out).2.1); rintro e w8 ⟨v168, rfl, ho0, hb⟩; refine ⟨_, rfl, ?_⟩; have n0_ := Aside0.mk (Kd.R_below (by (with_reducible repeat (first | apply Kd.R_alloc | apply Kd.R_drewN | apply Kd.R_drew)); exact HO166.out) hb); have n1_ := Aside0.mk (Kd.R_lower ho0 (below_size (belowA))); have n2_ := Aside0.mk (below_step (belowA) hb); clear HO166; clear HB; have HO166 := n0_; have HO169 := n1_; have HB := n2_; clear n0_ n1_ n2_; (try clear hb); (try clear hb2); (try clear hk); (try clear hi); (try clear ho0); obtain ⟨Ao9, co9, eo9⟩ := Kd.R_slice HO169.out; subst eo9) | ((with_reducible refine gate_callee (f := 115) rfl ?_); refine goesL_ (some 11) rfl rfl Tryd.func115 (by kernel_rfl) rfl #[.slice Ao9 t167.length co9] rfl (by (try simp only [List.map_toArray, List.map_cons, List.map_nil]); first | done | rfl) ?_; (with_reducible refine (impl_charCuts.calls _ _ t167 t170 _ ?side1 ?side2 A4.out).mono ?_); (case side1 => repeat (first | exact (Kd.R_reads' HO169.out).2.2 | (with_reducible refine Kd.C_alloc ?_ _) | (with_reducible refine Kd.C_drewN ?_ _) | (with_reducible refine Kd.C_drew ?_))); (case side2 => exact (Kd.R_reads' HO169.out).2.1); rintro e w10 ⟨v171, rfl, ho0, hb⟩; refine ⟨_, rfl, ?_⟩; have n0_ := Aside0.mk (Kd.R_below (by (with_reducible repeat (first | apply Kd.R_alloc | apply Kd.R_drewN | apply Kd.R_drew)); exact HO166.out) hb); have n1_ := Aside0.mk (Kd.R_below (by (with_reducible repeat (first | apply Kd.R_alloc | apply Kd.R_drewN | apply Kd.R_drew)); exact HO169.out) hb); have n2_ := Aside0.mk (Kd.R_lower ho0 (below_size (belowA))); have n3_ := Aside0.mk (below_step (belowA) hb); clear HO166; clear HO169; clear HB; have HO166 := n0_; have HO169 := n1_; have HO172 := n2_; have HB := n3_; clear n0_ n1_ n2_ n3_; (try clear hb); (try clear hb2); (try clear hk); (try clear hi); (try clear ho0); obtain ⟨Ao11, co11, eo11⟩ := Kd.R_slice HO172.out; subst eo11) | ((with_reducible refine gate_callee (f := 122) rfl ?_); refine goesL_ (some 12) rfl rfl Tryd.func122 (by kernel_rfl) rfl #[.slice Ao7 t164.length co7, .int .i64 (a0.size : Int), .slice Ao11 t170.length co11] rfl (by (try simp only [List.map_toArray, List.map_cons, List.map_nil]); first | done | rfl) ?_; (with_reducible refine (impl_placesOf.calls k _ _ t164 (a0.size : Int) _ _ t170 t173 _ ?side1 ?side2 ?side3 ?side4 A5.out).mono ?_); (case side1 => repeat (first | exact (Kd.R_reads' HO166.out).2.2 | (with_reducible refine Kd.C_alloc ?_ _) | (with_reducible refine Kd.C_drewN ?_ _) | (with_reducible refine Kd.C_drew ?_))); (case side2 => exact (Kd.R_reads' HO166.out).2.1); (case side3 => repeat (first | exact (Kd.R_reads' HO172.out).2.2 | (with_reducible refine Kd.C_alloc ?_ _) | (with_reducible refine Kd.C_drewN ?_ _) | (with_reducible refine Kd.C_drew ?_))); (case side4 => exact (Kd.R_reads' HO172.out).2.1); rintro e w12 ⟨v174, rfl, ho0, hb⟩; refine ⟨_, rfl, ?_⟩; have n0_ := Aside0.mk (Kd.R_below (by (with_reducible repeat (first | apply Kd.R_alloc | apply Kd.R_drewN | apply Kd.R_drew)); exact HO166.out) hb); have n1_ := Aside0.mk (Kd.R_elder' (by (with_reducible repeat (first | apply Kd.R_alloc | apply Kd.R_drewN | apply Kd.R_drew)); exact HO169.out) (Kd.R_base ho0) hb); have n2_ := Aside0.mk (Kd.R_below (by (with_reducible repeat (first | apply Kd.R_alloc | apply Kd.R_drewN | apply Kd.R_drew)); exact HO172.out) hb); have n3_ := Aside0.mk (Kd.R_lower (Kd.R_new' ho0 (Kd.R_lt (by (with_reducible repeat (first | apply Kd.R_alloc | apply Kd.R_drewN | apply Kd.R_drew)); exact HO169.out))) (below_size (belowA))); have n4_ := Aside0.mk (below_step (belowA) hb); clear HO166; clear HO169; clear HO172; clear HB; have HO166 := n0_; have HO169 := n1_; have HO172 := n2_; have HO175 := n3_; have HB := n4_; clear n0_ n1_ n2_ n3_ n4_; (try clear hb); (try clear hb2); (try clear hk); (try clear hi); (try clear ho0)))
 go_ret
 exact ⟨_, by first | rfl | (simp [errW_none, errW_some] <;> rfl) | (simp [*, errW_none, errW_some] <;> rfl), by (with_reducible repeat (first | apply Kd.R_alloc | apply Kd.R_drewN | apply Kd.R_drew)); exact Kd.R_mono HO175.out (fun _ hk => trivial), belowA⟩

def W_impl_charPlaces.f (t : ByteArray) : Option (List Int) := if t.size ≤ 100000000 then some (YtiabgmddnddeiaaDoorChr.places (bytesOf t)) else none
theorem impl_charPlaces.head (l : List Int) (h : 0 < (YtiabgmddnddeiaaDoorChr.go none false false 0 l).length) : (YtiabgmddnddeiaaDoorChr.go none false false 0 l)[0] = false := by
  cases l with
  | nil => simp [YtiabgmddnddeiaaDoorChr.go] at h
  | cons p t => simp [YtiabgmddnddeiaaDoorChr.go, YtiabgmddnddeiaaDoorChr.cutO]
theorem W_impl_charPlaces.to {t : ByteArray} {r : List Int} (h : W_impl_charPlaces.f t = some r) : ∃ k, impl_charPlaces.f k t = some r := by
  unfold W_impl_charPlaces.f at h
  split at h
  · rename_i hs
    have hl := YtiabgmddnddeiaaDoorDec.reads_length (bytesOf t)
    rw [bytesOf_length] at hl
    obtain ⟨L, hL⟩ : ∃ L, (YtiabgmddnddeiaaDoorDec.reads (bytesOf t)).map impl_read.mk = L := ⟨_, rfl⟩
    have hLl : L.length = (YtiabgmddnddeiaaDoorDec.reads (bytesOf t)).length := by rw [← hL, List.length_map]
    have e0 : L.map (fun x => x.f0) = YtiabgmddnddeiaaDoorPts.pts (bytesOf t) := by rw [← hL, List.map_map, ← YtiabgmddnddeiaaDoorDec.reads_pts]; rfl
    have e1 : L.map (fun x => x.f1) = YtiabgmddnddeiaaDoorChr.fromsAt (bytesOf t) 0 := by rw [← hL, List.map_map]; rfl
    have hp : (YtiabgmddnddeiaaDoorPts.pts (bytesOf t)).length = L.length := by rw [← e0, List.length_map]
    refine ⟨t.size + 2, ?_⟩
    rw [← h]
    unfold impl_charPlaces.f W_impl_read.f
    rw [if_pos (by omega), hL]
    simp only [Option.bind_some]
    have r1 := impl_onlyPoints.run L (by omega) _ (t.size + 2) 0 (List.replicate L.length 0) (by simp) (by omega) rfl (by omega) (by simp)
    have r2 : impl_onlyPoints.f (t.size + 2) L = some (YtiabgmddnddeiaaDoorPts.pts (bytesOf t)) := by
      unfold impl_onlyPoints.f
      rw [Int.toNat_natCast, if_pos (by omega), if_pos (by omega), ← e0]
      exact r1
    rw [r2]
    simp only [Option.bind_some]
    have r3 : impl_charCuts.f (YtiabgmddnddeiaaDoorPts.pts (bytesOf t)) = some (YtiabgmddnddeiaaDoorChr.go none false false 0 (YtiabgmddnddeiaaDoorPts.pts (bytesOf t))) :=
      if_pos ⟨by omega, fun p hp => by have := YtiabgmddnddeiaaDoorPts.pts_isP _ _ (Nat.le_refl _) p hp; unfold YtiabgmddnddeiaaDoorPts.isP at this; omega⟩
    rw [r3]
    simp only [Option.bind_some]
    unfold impl_placesOf.f YtiabgmddnddeiaaDoorChr.places
    by_cases hz : bytesOf t = []
    · have hz2 := congrArg List.length hz
      rw [bytesOf_length, List.length_nil] at hz2
      rw [if_pos (by omega), if_pos hz]; rfl
    · have hz2 := List.length_pos_iff.2 hz
      rw [bytesOf_length] at hz2
      rw [if_neg (by omega), if_neg hz]
      have r4 := impl_placesOf.run (t.size : Int) L (YtiabgmddnddeiaaDoorChr.go none false false 0 (YtiabgmddnddeiaaDoorPts.pts (bytesOf t))) (Nat.le_of_eq (by rw [YtiabgmddnddeiaaDoorChr.go_length, hp])) (by omega) _ (t.size + 2) 0 [0] (Nat.zero_le _) rfl (by omega) (by simp only [List.length_cons, List.length_nil]; omega) (fun _ g => impl_charPlaces.head _ g)
      simp only [List.drop_zero, Int.natCast_zero] at r4
      rw [e1] at r4
      rw [r4, YtiabgmddnddeiaaDoorChr.cutsAt_sel _ _ _ (YtiabgmddnddeiaaDoorChr.goS_length _ _), bytesOf_length]
      rfl
  · cases h
theorem W_impl_charPlaces.calls (a0 : ByteArray) (r : List Int) (w : World) (h : W_impl_charPlaces.f a0 = some r) (hG : GT w) :
    Calls Tryd.prog 136 #[.string a0] w fun e w' => ∃ v0_ : Value, e = .returned (v0_) ∧ Kd.R (Kd.int .i64) 2 w' w.heap.size (fun _ => True) v0_ r ∧ Below w.heap.size w w' := by
  obtain ⟨k, hk⟩ := W_impl_charPlaces.to h
  exact impl_charPlaces.calls k a0 r w hk hG

end Go.Proofs.YtiabgmddnddeiaaDoor.QFnChars
