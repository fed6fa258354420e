/- The law FnEquivalent: at every input the call answers true (this text: contracts on its way, by a program of this session's; no condition of ours). -/
import Derived.Test.YtdkoofdfkhogoaaDoorQFnEquivalentx0
import Derived.Test.YtdkoofdfkhogoaaDoorQFnEquivalentx8
namespace Go.Proofs.YtdkoofdfkhogoaaDoor.QFnEquivalent
open Go.RowKit Go.Proofs.YtdkoofdfkhogoaaDoorW.PrintWords Go.Proofs.YtdkoofdfkhogoaaDoorW.PrintLast Go.Proofs.YtdkoofdfkhogoaaDoorW.PrintMore
attribute [local go_sem] max2_int min2_int max_two min_two max_three min_three max_four min_four   -- for this text's walks alone
set_option linter.unusedVariables false
set_option linter.unusedSimpArgs false

/-! ### spec_l01Src_n: function 97 (by hand) -/
theorem relet_ {Goal : World → Prop} {W : World} (P : World → Prop) (hP : P W) (h : ∀ w2, P w2 → Goal w2) : Goal W := h W hP
def spec_l01Src_n.m1 (m : Int) : Int := Go.bits .xor .u64 m (IntKind.u64.wrap (m * 8192))
def spec_l01Src_n.m2 (m : Int) : Int := Go.bits .xor .u64 m (m / 128)
def spec_l01Src_n.m3 (m : Int) : Int := Go.bits .xor .u64 m (IntKind.u64.wrap (m * 131072))
def spec_l01Src_n.mix (m : Int) : Int := spec_l01Src_n.m3 (spec_l01Src_n.m2 (spec_l01Src_n.m1 m))
def spec_l01Src_n.out (v m a : Int) : Int := wrap64 ((IntKind.u64.wrap (v + m / 1048576)).tmod a)
def spec_l01Src_n.out0 (m a : Int) : Int := wrap64 ((IntKind.u64.wrap (m / 1048576)).tmod a)
def spec_l01Src_n.f (s0_0 : List Int) (s0_1 s0_2 s0_3 a1 : Int) : Option (Int × Int × Int × Int) :=
  if a1 ≤ 1 then some (0, s0_1, s0_2, s0_3)
  else if a1 ≤ 9223372036854775807 then
    (if s0_1 < (s0_0.length : Int) then (if 0 ≤ s0_1 then some (spec_l01Src_n.out (IntKind.u64.wrap (rd s0_0 s0_1)) (spec_l01Src_n.mix s0_2) a1, wrap64 (s0_1 + 1), spec_l01Src_n.mix s0_2, s0_3) else none)
     else some (spec_l01Src_n.out0 (spec_l01Src_n.mix s0_2) a1, s0_1, spec_l01Src_n.mix s0_2, s0_3))
  else none
set_option maxHeartbeats 2000000 in
set_option maxRecDepth 100000 in
theorem spec_l01Src_n.calls (g : Nat) (s0_0 : List Int) (s0_1 : Int) (s0_2 : Int) (s0_3 : Int) (a1 : Int) (r1 : Int) (r2 : Int) (r3 : Int) (r4 : Int) (w0 w : World) (hI : IsS95 w0 w g s0_0 s0_1 s0_2 s0_3) (hB : Below w0.heap.size w0 w) (h : spec_l01Src_n.f s0_0 s0_1 s0_2 s0_3 a1 = some (r1, r2, r3, r4)) :
    Calls Tryd.prog 97 #[.pointer (some ⟨g, 0, none⟩), .int .i64 a1] w fun e w' => e = .returned (.int .i64 r1) ∧ IsS95 w0 w' g s0_0 r2 r3 r4 ∧ Below w0.heap.size w0 w' ∧ KeepBut w w' g none := by
  have HI := hI
  obtain ⟨A0, c0, hblk, hge, hC⟩ := hI
  have k0 := cellS95_0 hblk
  have k1 := cellS95_1 hblk
  have k2 := cellS95_2 hblk
  have z1 := blk_frozen hblk 1
  have z2 := blk_frozen hblk 2
  have HK := KeepBut.refl w g none
  by_cases h1 : a1 ≤ 1
  · unfold spec_l01Src_n.f at h
    rw [if_pos h1] at h
    simp only [Option.some.injEq, Prod.mk.injEq] at h
    obtain ⟨rfl, rfl, rfl, rfl⟩ := h
    have HI := Aside0.mk HI
    have HB := Aside0.mk hB
    have HK := Aside0.mk HK
    clear hblk hge hC hB
    go_enter Tryd.func97, Tryd.ntmps97
    go_wp2
    go_ret
    exact ⟨rfl, HI.out, HB.out, HK.out⟩
  · by_cases h2 : a1 ≤ 9223372036854775807
    · by_cases h4 : s0_1 < (s0_0.length : Int)
      · by_cases h3 : 0 ≤ s0_1
        · skip
          have ho : Aside0 (spec_l01Src_n.out (IntKind.u64.wrap (rd s0_0 s0_1)) (spec_l01Src_n.m3 (spec_l01Src_n.m2 (spec_l01Src_n.m1 s0_2))) a1 = r1 ∧ wrap64 (s0_1 + 1) = r2 ∧ spec_l01Src_n.m3 (spec_l01Src_n.m2 (spec_l01Src_n.m1 s0_2)) = r3 ∧ s0_3 = r4) := by
            unfold spec_l01Src_n.f at h
            rw [if_neg h1, if_pos h2, if_pos h4, if_pos h3] at h
            simp only [Option.some.injEq, Prod.mk.injEq] at h
            exact ⟨h⟩
          clear h
          obtain ⟨ad, e119, hx0⟩ := Kd.at_int hC s0_1 h3 h4
          cases e119
          replace hx0 := (hB.cell (World.block_lt_of_cell? w0 _ hx0)).trans hx0
          have HI := Aside0.mk HI
          have HB := Aside0.mk hB
          have HK := Aside0.mk HK
          clear hblk hge hC hB
          have h1 : 1 < a1 := by omega
          go_enter Tryd.func97, Tryd.ntmps97
          go_wp2
          go_quiet (fail)
          go_wp2
          go_quiet (fail)
          go_wp2
          go_region
          go_wp2
          refine relet_ (Goal := fun w' => Code.wp _ _ _ _ w') (fun w2 => IsS95 w0 w2 g s0_0 (wrap64 (s0_1 + 1)) (Go.bits .xor .u64 s0_2 (IntKind.u64.wrap (s0_2 * 8192))) s0_3 ∧ Below w0.heap.size w0 w2 ∧ KeepBut w w2 g none) ⟨by repeat (first | (with_reducible first | exact HI.out | apply IsS95.alloc | apply IsS95.drewN | apply IsS95.drew | apply IsS95.set_1 | apply IsS95.set_2 | apply IsS95.set_3) | exact HI.out), by repeat (first | (with_reducible first | exact HB.out | apply below_alloc | apply pw_below_drewN | apply below_drew1 | refine below_set ?_ (IsS95.ge HI.out)) | exact HB.out), by repeat (first | (with_reducible first | exact HK.out | apply KeepBut.set_ | apply keep_drewN | apply keep_drew | apply keep_alloc) | exact HK.out)⟩ ?_
          clear k0 k1 k2 z1 z2 HI HB HK hx0
          rintro w2 ⟨hI, hB, hK⟩
          change IsS95 w0 w2 g s0_0 (wrap64 (s0_1 + 1)) (spec_l01Src_n.m1 s0_2) s0_3 at hI
          obtain ⟨x1, hx1⟩ : ∃ m, spec_l01Src_n.m1 s0_2 = m := ⟨_, rfl⟩
          rw [hx1] at hI ho
          clear hx1
          have HI := Aside0.mk hI
          have HB := Aside0.mk hB
          have HK := Aside0.mk hK
          obtain ⟨A0, c0, hblk, hge, hC⟩ := hI
          have k0 := cellS95_0 hblk
          have k1 := cellS95_1 hblk
          have k2 := cellS95_2 hblk
          have z1 := blk_frozen hblk 1
          have z2 := blk_frozen hblk 2
          clear hblk hge hC hB hK
          go_region
          go_wp2
          refine relet_ (Goal := fun w' => Code.wp _ _ _ _ w') (fun w2 => IsS95 w0 w2 g s0_0 (wrap64 (s0_1 + 1)) (Go.bits .xor .u64 x1 (x1 / 128)) s0_3 ∧ Below w0.heap.size w0 w2 ∧ KeepBut w w2 g none) ⟨by repeat (first | (with_reducible first | exact HI.out | apply IsS95.alloc | apply IsS95.drewN | apply IsS95.drew | apply IsS95.set_1 | apply IsS95.set_2 | apply IsS95.set_3) | exact HI.out), by repeat (first | (with_reducible first | exact HB.out | apply below_alloc | apply pw_below_drewN | apply below_drew1 | refine below_set ?_ (IsS95.ge HI.out)) | exact HB.out), by repeat (first | (with_reducible first | exact HK.out | apply KeepBut.set_ | apply keep_drewN | apply keep_drew | apply keep_alloc) | exact HK.out)⟩ ?_
          clear k0 k1 k2 z1 z2 HI HB HK
          rintro w2 ⟨hI, hB, hK⟩
          change IsS95 w0 w2 g s0_0 (wrap64 (s0_1 + 1)) (spec_l01Src_n.m2 x1) s0_3 at hI
          obtain ⟨x2, hx2⟩ : ∃ m, spec_l01Src_n.m2 x1 = m := ⟨_, rfl⟩
          rw [hx2] at hI ho
          clear hx2
          have HI := Aside0.mk hI
          have HB := Aside0.mk hB
          have HK := Aside0.mk hK
          obtain ⟨A0, c0, hblk, hge, hC⟩ := hI
          have k0 := cellS95_0 hblk
          have k1 := cellS95_1 hblk
          have k2 := cellS95_2 hblk
          have z1 := blk_frozen hblk 1
          have z2 := blk_frozen hblk 2
          clear hblk hge hC hB hK
          go_region
          go_wp2
          go_ret
          unfold spec_l01Src_n.m3 spec_l01Src_n.out at ho
          obtain ⟨e1, e2, e3, e4⟩ := ho.out
          subst e1 e2 e3 e4
          exact ⟨rfl, by repeat (first | (with_reducible first | exact HI.out | apply IsS95.alloc | apply IsS95.drewN | apply IsS95.drew | apply IsS95.set_1 | apply IsS95.set_2 | apply IsS95.set_3) | exact HI.out), by repeat (first | (with_reducible first | exact HB.out | apply below_alloc | apply pw_below_drewN | apply below_drew1 | refine below_set ?_ (IsS95.ge HI.out)) | exact HB.out), by repeat (first | (with_reducible first | exact HK.out | apply KeepBut.set_ | apply keep_drewN | apply keep_drew | apply keep_alloc) | exact HK.out)⟩
        · unfold spec_l01Src_n.f at h
          rw [if_neg h1, if_pos h2, if_pos h4, if_neg h3] at h
          cases h
      · skip
        have ho : Aside0 (spec_l01Src_n.out0 (spec_l01Src_n.m3 (spec_l01Src_n.m2 (spec_l01Src_n.m1 s0_2))) a1 = r1 ∧ s0_1 = r2 ∧ spec_l01Src_n.m3 (spec_l01Src_n.m2 (spec_l01Src_n.m1 s0_2)) = r3 ∧ s0_3 = r4) := by
          unfold spec_l01Src_n.f at h
          rw [if_neg h1, if_pos h2, if_neg h4] at h
          simp only [Option.some.injEq, Prod.mk.injEq] at h
          exact ⟨h⟩
        clear h
        have HI := Aside0.mk HI
        have HB := Aside0.mk hB
        have HK := Aside0.mk HK
        clear hblk hge hC hB
        have h1 : 1 < a1 := by omega
        have h4 : (s0_0.length : Int) ≤ s0_1 := by omega
        go_enter Tryd.func97, Tryd.ntmps97
        go_wp2
        go_quiet (fail)
        go_wp2
        go_region
        go_wp2
        refine relet_ (Goal := fun w' => Code.wp _ _ _ _ w') (fun w2 => IsS95 w0 w2 g s0_0 (s0_1) (Go.bits .xor .u64 s0_2 (IntKind.u64.wrap (s0_2 * 8192))) s0_3 ∧ Below w0.heap.size w0 w2 ∧ KeepBut w w2 g none) ⟨by repeat (first | (with_reducible first | exact HI.out | apply IsS95.alloc | apply IsS95.drewN | apply IsS95.drew | apply IsS95.set_1 | apply IsS95.set_2 | apply IsS95.set_3) | exact HI.out), by repeat (first | (with_reducible first | exact HB.out | apply below_alloc | apply pw_below_drewN | apply below_drew1 | refine below_set ?_ (IsS95.ge HI.out)) | exact HB.out), by repeat (first | (with_reducible first | exact HK.out | apply KeepBut.set_ | apply keep_drewN | apply keep_drew | apply keep_alloc) | exact HK.out)⟩ ?_
        clear k0 k1 k2 z1 z2 HI HB HK
        rintro w2 ⟨hI, hB, hK⟩
        change IsS95 w0 w2 g s0_0 (s0_1) (spec_l01Src_n.m1 s0_2) s0_3 at hI
        obtain ⟨x1, hx1⟩ : ∃ m, spec_l01Src_n.m1 s0_2 = m := ⟨_, rfl⟩
        rw [hx1] at hI ho
        clear hx1
        have HI := Aside0.mk hI
        have HB := Aside0.mk hB
        have HK := Aside0.mk hK
        obtain ⟨A0, c0, hblk, hge, hC⟩ := hI
        have k0 := cellS95_0 hblk
        have k1 := cellS95_1 hblk
        have k2 := cellS95_2 hblk
        have z1 := blk_frozen hblk 1
        have z2 := blk_frozen hblk 2
        clear hblk hge hC hB hK
        go_region
        go_wp2
        refine relet_ (Goal := fun w' => Code.wp _ _ _ _ w') (fun w2 => IsS95 w0 w2 g s0_0 (s0_1) (Go.bits .xor .u64 x1 (x1 / 128)) s0_3 ∧ Below w0.heap.size w0 w2 ∧ KeepBut w w2 g none) ⟨by repeat (first | (with_reducible first | exact HI.out | apply IsS95.alloc | apply IsS95.drewN | apply IsS95.drew | apply IsS95.set_1 | apply IsS95.set_2 | apply IsS95.set_3) | exact HI.out), by repeat (first | (with_reducible first | exact HB.out | apply below_alloc | apply pw_below_drewN | apply below_drew1 | refine below_set ?_ (IsS95.ge HI.out)) | exact HB.out), by repeat (first | (with_reducible first | exact HK.out | apply KeepBut.set_ | apply keep_drewN | apply keep_drew | apply keep_alloc) | exact HK.out)⟩ ?_
        clear k0 k1 k2 z1 z2 HI HB HK
        rintro w2 ⟨hI, hB, hK⟩
        change IsS95 w0 w2 g s0_0 (s0_1) (spec_l01Src_n.m2 x1) s0_3 at hI
        obtain ⟨x2, hx2⟩ : ∃ m, spec_l01Src_n.m2 x1 = m := ⟨_, rfl⟩
        rw [hx2] at hI ho
        clear hx2
        have HI := Aside0.mk hI
        have HB := Aside0.mk hB
        have HK := Aside0.mk hK
        obtain ⟨A0, c0, hblk, hge, hC⟩ := hI
        have k0 := cellS95_0 hblk
        have k1 := cellS95_1 hblk
        have k2 := cellS95_2 hblk
        have z1 := blk_frozen hblk 1
        have z2 := blk_frozen hblk 2
        clear hblk hge hC hB hK
        go_region
        go_wp2
        go_ret
        unfold spec_l01Src_n.m3 spec_l01Src_n.out0 at ho
        obtain ⟨e1, e2, e3, e4⟩ := ho.out
        subst e1 e2 e3 e4
        exact ⟨rfl, by repeat (first | (with_reducible first | exact HI.out | apply IsS95.alloc | apply IsS95.drewN | apply IsS95.drew | apply IsS95.set_1 | apply IsS95.set_2 | apply IsS95.set_3) | exact HI.out), by repeat (first | (with_reducible first | exact HB.out | apply below_alloc | apply pw_below_drewN | apply below_drew1 | refine below_set ?_ (IsS95.ge HI.out)) | exact HB.out), by repeat (first | (with_reducible first | exact HK.out | apply KeepBut.set_ | apply keep_drewN | apply keep_drew | apply keep_alloc) | exact HK.out)⟩
    · unfold spec_l01Src_n.f at h
      rw [if_neg h1, if_neg h2] at h
      cases h

theorem spec_l01Src_n.tot (l : List Int) (a m z w : Int) (hl : l.length ≤ 140737488355328) (h0 : 0 ≤ a) (h1 : a ≤ (l.length : Int)) (hw : w ≤ 9223372036854775807) :
    YtdkoofdfkhogoaaDoorPts.Tot (spec_l01Src_n.f l a m z w) (fun r => 0 ≤ r.1 ∧ (r.1 < w ∨ r.1 = 0) ∧ 0 ≤ r.2.1 ∧ r.2.1 ≤ (l.length : Int) ∧ r.2.2.2 = z) := by
  have g : ∀ x : Int, 1 < w → 0 ≤ wrap64 ((IntKind.u64.wrap x).tmod w) ∧ wrap64 ((IntKind.u64.wrap x).tmod w) < w := by
    intro x hw1
    have hx : 0 ≤ IntKind.u64.wrap x := by simp [IntKind.wrap, IntKind.bits, IntKind.signed]; omega
    rw [Int.tmod_eq_emod_of_nonneg hx]
    have a1 := Int.emod_nonneg (IntKind.u64.wrap x) (show w ≠ 0 by omega)
    have a2 := Int.emod_lt_of_pos (IntKind.u64.wrap x) (show 0 < w by omega)
    obtain ⟨y, hy⟩ : ∃ y, IntKind.u64.wrap x % w = y := ⟨_, rfl⟩
    rw [hy] at a1 a2 ⊢
    clear hy hx
    unfold wrap64; omega
  unfold spec_l01Src_n.f
  by_cases c1 : w ≤ 1
  · rw [if_pos c1]
    exact YtdkoofdfkhogoaaDoorPts.Tot.mk ⟨by simp, .inr rfl, h0, h1, rfl⟩
  · rw [if_neg c1, if_pos hw]
    have hw1 : 1 < w := by omega
    by_cases c2 : a < (l.length : Int)
    · rw [if_pos c2, if_pos h0]
      have e : wrap64 (a + 1) = a + 1 := by unfold wrap64; omega
      rw [e]
      unfold spec_l01Src_n.out
      exact YtdkoofdfkhogoaaDoorPts.Tot.mk ⟨(g _ hw1).1, Or.inl (g _ hw1).2, by dsimp only; omega, by dsimp only; omega, rfl⟩
    · rw [if_neg c2]
      unfold spec_l01Src_n.out0
      exact YtdkoofdfkhogoaaDoorPts.Tot.mk ⟨(g _ hw1).1, Or.inl (g _ hw1).2, h0, h1, rfl⟩
theorem isA {w0 W : World} {g : Nat} {l : List Int} {a b c : Int} (h : IsS95 w0 W g l a b c := by repeat (first | (with_reducible first | exact HI0.out | apply IsS95.alloc | apply IsS95.drewN | apply IsS95.drew | apply IsS95.set_1 | apply IsS95.set_2 | apply IsS95.set_3) | exact HI0.out)) : IsS95 w0 W g l a b c := h
theorem belowI {B : Nat} {w W : World} (h : Below B w W := by repeat (first | (with_reducible first | exact HB.out | apply below_alloc | apply pw_below_drewN | apply below_drew1 | refine below_set ?_ (IsS95.ge HI0.out)) | exact HB.out)) : Below B w W := h
theorem keepA {W0 W : World} {g : Nat} {row : Option Nat} (h : KeepBut W0 W g row := by repeat (first | (with_reducible first | exact HK.out | apply KeepBut.set_ | apply keep_drewN | apply keep_drew | apply keep_alloc) | exact HK.out)) : KeepBut W0 W g row := h
theorem spec_l01Src_n.callsA (g : Nat) (s0_0 : List Int) (s0_1 s0_2 s0_3 a0 r1 r2 r3 r4 : Int) (w0 W0 W : World) (h : spec_l01Src_n.f s0_0 s0_1 s0_2 s0_3 a0 = some (r1, r2, r3, r4))
    (hI : IsS95 w0 W g s0_0 s0_1 s0_2 s0_3 := by repeat (first | (with_reducible first | exact HI0.out | apply IsS95.alloc | apply IsS95.drewN | apply IsS95.drew | apply IsS95.set_1 | apply IsS95.set_2 | apply IsS95.set_3) | exact HI0.out))
    (hB : Below w0.heap.size w0 W := by repeat (first | (with_reducible first | exact HB.out | apply below_alloc | apply pw_below_drewN | apply below_drew1 | refine below_set ?_ (IsS95.ge HI0.out)) | exact HB.out))
    (hK : KeepBut W0 W g none := by repeat (first | (with_reducible first | exact HK.out | apply KeepBut.set_ | apply keep_drewN | apply keep_drew | apply keep_alloc) | exact HK.out)) :
    Calls Tryd.prog 97 #[.pointer (some ⟨g, 0, none⟩), .int .i64 a0] W fun e w' => e = .returned (.int .i64 r1) ∧ Aside0 (IsS95 w0 w' g s0_0 r2 r3 r4) ∧ Aside0 (Below w0.heap.size w0 w') ∧ Aside0 (KeepBut W0 w' g none) :=
  (spec_l01Src_n.calls g s0_0 s0_1 s0_2 s0_3 a0 r1 r2 r3 r4 w0 W hI hB h).mono (fun e w' hh => ⟨hh.1, ⟨hh.2.1⟩, ⟨hh.2.2.1⟩, ⟨KeepBut.trans hK hh.2.2.2 (.inl rfl)⟩⟩)

/-! ### spec_l01Src_one: function 120 -/
def spec_l01Src_one.f (s0_0 : List Int) (s0_1 : Int) (s0_2 : Int) (s0_3 : Int) (a1 : Int) : Option (Bool × Int × Int × Int) := (spec_l01Src_n.f s0_0 s0_1 s0_2 s0_3 a1).bind fun bt238 => (some ((bt238.1 == 0), bt238.2.1, bt238.2.2.1, bt238.2.2.2))
set_option maxHeartbeats 8000000 in
set_option maxRecDepth 100000 in
theorem spec_l01Src_one.calls (g : Nat) (s0_0 : List Int) (s0_1 : Int) (s0_2 : Int) (s0_3 : Int) (a1 : Int) (r1 : Bool) (r2 : Int) (r3 : Int) (r4 : Int) (w0 w : World) (hI : IsS95 w0 w g s0_0 s0_1 s0_2 s0_3) (hB : Below w0.heap.size w0 w) (h : spec_l01Src_one.f s0_0 s0_1 s0_2 s0_3 a1 = some (r1, r2, r3, r4)) :
    Calls Tryd.prog 120 #[.pointer (some ⟨g, 0, none⟩), .int .i64 a1] w fun e w' => e = .returned (.bool r1) ∧ IsS95 w0 w' g s0_0 r2 r3 r4 ∧ Below w0.heap.size w0 w' ∧ KeepBut w w' g none := by
  have HI0 := Aside0.mk hI
  have HK := Aside0.mk (KeepBut.refl w g none)
  have HL := Aside0.mk hB.size
  clear hI
  have HW0 := Aside0.mk hB.size
  have HB := Aside0.mk hB
  clear hB
  have H : ((spec_l01Src_n.f s0_0 s0_1 s0_2 s0_3 a1).bind fun bt238 => (some ((bt238.1 == 0), bt238.2.1, bt238.2.2.1, bt238.2.2.2))) = some (r1, r2, r3, r4) := h
  clear h
  replace H := Option.bind_eq_some_iff.mp H
  obtain ⟨⟨t238, t239, t240, t241⟩, A30, H⟩ := H
  replace H : (some ((t238 == 0), t239, t240, t241)) = some (r1, r2, r3, r4) := H
  have A3 := Aside0.mk A30
  clear A30
  simp only [Option.some.injEq, Prod.mk.injEq] at H
  obtain ⟨rfl, rfl, rfl, rfl⟩ := H
  go_enter Tryd.func120, Tryd.ntmps120
  go_wp2_with (first | ((with_reducible refine gate_callee (f := 97) rfl ?_); refine goesL_ (some 7) rfl rfl Tryd.func97 (by kernel_rfl) rfl #[.pointer (some ⟨g, 0, none⟩), .int .i64 a1] rfl (by (try simp only [List.map_toArray, List.map_cons, List.map_nil]); first | done | rfl | (simp only [List.length_drop, List.length_take]; rfl)) ?_; (with_reducible refine (spec_l01Src_n.calls g s0_0 s0_1 s0_2 s0_3 a1 t238 t239 t240 t241 w0 _ ?side1 ?side2 A3.out).mono ?_); (case side1 => repeat (first | (with_reducible first | exact HI0.out | apply IsS95.alloc | apply IsS95.drewN | apply IsS95.drew | apply IsS95.set_1 | apply IsS95.set_2 | apply IsS95.set_3) | exact HI0.out)); (case side2 => repeat (first | (with_reducible first | exact HB.out | apply below_alloc | apply pw_below_drewN | apply below_drew1 | refine below_set ?_ (IsS95.ge HI0.out)) | exact HB.out)); rintro e w4 ⟨rfl, hi, hb, hk⟩; refine ⟨_, rfl, ?_⟩; have n0_ := Aside0.mk (KeepBut.trans (by repeat (first | (with_reducible first | exact HK.out | apply KeepBut.set_ | apply keep_drewN | apply keep_drew | apply keep_alloc) | exact HK.out)) hk (.inl rfl)); have n1_ := Aside0.mk (hb); have n2_ := Aside0.mk (hi); clear HK; clear HB; clear HI0; have HK := n0_; have HB := n1_; have HI0 := n2_; clear n0_ n1_ n2_; (try clear hb); (try clear hb2); (try clear hk); (try clear hi)))
  go_ret
  exact ⟨by first | rfl | (simp [errW_none, errW_some] <;> rfl) | (simp [*, errW_none, errW_some] <;> rfl), by repeat (first | (with_reducible first | exact HI0.out | apply IsS95.alloc | apply IsS95.drewN | apply IsS95.drew | apply IsS95.set_1 | apply IsS95.set_2 | apply IsS95.set_3) | exact HI0.out), by repeat (first | (with_reducible first | exact HB.out | apply below_alloc | apply pw_below_drewN | apply below_drew1 | refine below_set ?_ (IsS95.ge HI0.out)) | exact HB.out), by repeat (first | (with_reducible first | exact HK.out | apply KeepBut.set_ | apply keep_drewN | apply keep_drew | apply keep_alloc) | exact HK.out)⟩

theorem spec_l01Src_one.tot (l : List Int) (a m z w : Int) (hl : l.length ≤ 140737488355328) (h0 : 0 ≤ a) (h1 : a ≤ (l.length : Int)) (hw : w ≤ 9223372036854775807) :
    YtdkoofdfkhogoaaDoorPts.Tot (spec_l01Src_one.f l a m z w) (fun r => 0 ≤ r.2.1 ∧ r.2.1 ≤ (l.length : Int) ∧ r.2.2.2 = z) := by
  unfold spec_l01Src_one.f
  refine YtdkoofdfkhogoaaDoorPts.Tot.bind (spec_l01Src_n.tot l a m z w hl h0 h1 hw) ?_
  rintro ⟨v, a1, m1, z1⟩ ⟨_, _, h2, h3, h4⟩
  exact YtdkoofdfkhogoaaDoorPts.Tot.mk ⟨h2, h3, h4⟩

/-! ### spec_l01Src_spoil: function 148 -/
def spec_l01Src_spoil.j0 : Nat → ByteArray → Int → ByteArray → Bool → List Int → Int → Int → Int → Option (ByteArray × Int × Int × Int)
 | 0, _, _, _, _, _, _, _, _ => none
 | k + 1, x1, x5, x6, x24, x1000, x1001, x1002, x1003 => if x24 = true then (if 0 ≤ x5 then (if x5 ≤ (x1.size : Int) then (if (x1.extract 0 (x5 : Int).toNat).size + x6.size ≤ 9223372036854775807 then (if ((x1.extract 0 (x5 : Int).toNat) ++ x6).size + (x1.extract (x5 : Int).toNat x1.size).size ≤ 9223372036854775807 then (some (((x1.extract 0 (x5 : Int).toNat) ++ x6) ++ (x1.extract (x5 : Int).toNat x1.size), x1001, x1002, x1003)) else (none)) else (none)) else (none)) else (none)) else ((spec_l01Src_one.f x1000 x1001 x1002 x1003 2).bind fun bt257 => (if bt257.1 = true then (if 0 ≤ x5 then (if x5 ≤ (x1.size : Int) then (if 0 ≤ (wrap64 (x5 + 1)) then (if (wrap64 (x5 + 1)) ≤ (x1.size : Int) then (if (x1.extract 0 (x5 : Int).toNat).size + (x1.extract ((wrap64 (x5 + 1)) : Int).toNat x1.size).size ≤ 9223372036854775807 then (some ((x1.extract 0 (x5 : Int).toNat) ++ (x1.extract ((wrap64 (x5 + 1)) : Int).toNat x1.size), bt257.2.1, bt257.2.2.1, bt257.2.2.2)) else (none)) else (none)) else (none)) else (none)) else (none)) else (if 0 ≤ x5 then (if x5 ≤ (x1.size : Int) then (if (x1.extract 0 (x5 : Int).toNat).size + x6.size ≤ 9223372036854775807 then (if 0 ≤ (wrap64 (x5 + 1)) then (if (wrap64 (x5 + 1)) ≤ (x1.size : Int) then (if ((x1.extract 0 (x5 : Int).toNat) ++ x6).size + (x1.extract ((wrap64 (x5 + 1)) : Int).toNat x1.size).size ≤ 9223372036854775807 then (some (((x1.extract 0 (x5 : Int).toNat) ++ x6) ++ (x1.extract ((wrap64 (x5 + 1)) : Int).toNat x1.size), bt257.2.1, bt257.2.2.1, bt257.2.2.2)) else (none)) else (none)) else (none)) else (none)) else (none)) else (none))))
def spec_l01Src_spoil.f (k : Nat) (s0_0 : List Int) (s0_1 : Int) (s0_2 : Int) (s0_3 : Int) (a1 : ByteArray) : Option (ByteArray × Int × Int × Int) := (spec_l01Src_n.f s0_0 s0_1 s0_2 s0_3 (wrap64 ((a1.size : Int) + 1))).bind fun bt242 => ((spec_l01Src_n.f s0_0 bt242.2.1 bt242.2.2.1 bt242.2.2.2 17).bind fun bt246 => (if 0 ≤ bt246.1 then (if bt246.1 < 17 then ((some (([bt (⟨#[32, 10, 48, 97, 45, 110, 44, 58, 93, 255, 40, 120, 34, 49, 128, 225, 59]⟩ : ByteArray) bt246.1] : List Int) : List Int)).bind fun y250 => (if bt242.1 = (a1.size : Int) then (spec_l01Src_spoil.j0 k a1 bt242.1 (strOfNums y250) true s0_0 bt246.2.1 bt246.2.2.1 bt246.2.2.2) else ((spec_l01Src_one.f s0_0 bt246.2.1 bt246.2.2.1 bt246.2.2.2 3).bind fun bt253 => (spec_l01Src_spoil.j0 k a1 bt242.1 (strOfNums y250) bt253.1 s0_0 bt253.2.1 bt253.2.2.1 bt253.2.2.2)))) else (none)) else (none)))
theorem spec_l01Src_spoil.mono_l : ∀ k, (∀ y0 y1 y2 y3 y4 y5 y6 y7, LeO (spec_l01Src_spoil.j0 k y0 y1 y2 y3 y4 y5 y6 y7) (spec_l01Src_spoil.j0 (k + 1) y0 y1 y2 y3 y4 y5 y6 y7))
 | 0 => fun _ _ _ _ _ _ _ _ r h => by simp [spec_l01Src_spoil.j0] at h
 | k + 1 => by
  have ih0 := spec_l01Src_spoil.mono_l k; intro y0 y1 y2 y3 y4 y5 y6 y7
  unfold spec_l01Src_spoil.j0
  repeat' first
  | (with_reducible exact ih0 _ _ _ _ _ _ _ _)
  | (with_reducible exact LeO.refl _)
  | (with_reducible exact LeO.none _)
  | (with_reducible refine LeO.ite ?_ ?_)
  | (with_reducible refine LeO.bind ?_ (fun _ => ?_))
  | exact ih0 _ _ _ _ _ _ _ _
  | exact LeO.none _
  | refine LeO.ite ?_ ?_
  | refine LeO.bind ?_ (fun _ => ?_)
theorem spec_l01Src_spoil.mono : ∀ a0 a1 a2 a3 a4 k, LeO (spec_l01Src_spoil.f k a0 a1 a2 a3 a4) (spec_l01Src_spoil.f (k + 1) a0 a1 a2 a3 a4) := by
 intro a0 a1 a2 a3 a4 k
 have ih0 := spec_l01Src_spoil.mono_l k
 unfold spec_l01Src_spoil.f
 repeat' first
   | (with_reducible exact ih0 _ _ _ _ _ _ _ _)
   | (with_reducible exact LeO.refl _)
   | (with_reducible exact LeO.none _)
   | (with_reducible refine LeO.ite ?_ ?_)
   | (with_reducible refine LeO.bind ?_ (fun _ => ?_))
   | exact ih0 _ _ _ _ _ _ _ _
   | exact LeO.none _
   | refine LeO.ite ?_ ?_
   | refine LeO.bind ?_ (fun _ => ?_)
set_option maxHeartbeats 8000000 in
set_option maxRecDepth 100000 in
theorem spec_l01Src_spoil.calls (k : Nat) (g : Nat) (s0_0 : List Int) (s0_1 : Int) (s0_2 : Int) (s0_3 : Int) (a1 : ByteArray) (r1 : ByteArray) (r2 : Int) (r3 : Int) (r4 : Int) (w0 w : World) (hI : IsS95 w0 w g s0_0 s0_1 s0_2 s0_3) (hB : Below w0.heap.size w0 w) (h : spec_l01Src_spoil.f k s0_0 s0_1 s0_2 s0_3 a1 = some (r1, r2, r3, r4)) :
  Calls Tryd.prog 148 #[.pointer (some ⟨g, 0, none⟩), .string a1] w fun e w' => e = .returned (.string r1) ∧ IsS95 w0 w' g s0_0 r2 r3 r4 ∧ Below w0.heap.size w0 w' ∧ KeepBut w w' g none := by
 have HI0 := Aside0.mk hI
 have HK := Aside0.mk (KeepBut.refl w g none)
 have HL := Aside0.mk hB.size
 clear hI
 have HW0 := Aside0.mk hB.size
 have HB := Aside0.mk hB
 clear hB
 have H : ((spec_l01Src_n.f s0_0 s0_1 s0_2 s0_3 (wrap64 ((a1.size : Int) + 1))).bind fun bt242 => ((spec_l01Src_n.f s0_0 bt242.2.1 bt242.2.2.1 bt242.2.2.2 17).bind fun bt246 => (if 0 ≤ bt246.1 then (if bt246.1 < 17 then ((some (([bt (⟨#[32, 10, 48, 97, 45, 110, 44, 58, 93, 255, 40, 120, 34, 49, 128, 225, 59]⟩ : ByteArray) bt246.1] : List Int) : List Int)).bind fun y250 => (if bt242.1 = (a1.size : Int) then (spec_l01Src_spoil.j0 k a1 bt242.1 (strOfNums y250) true s0_0 bt246.2.1 bt246.2.2.1 bt246.2.2.2) else ((spec_l01Src_one.f s0_0 bt246.2.1 bt246.2.2.1 bt246.2.2.2 3).bind fun bt253 => (spec_l01Src_spoil.j0 k a1 bt242.1 (strOfNums y250) bt253.1 s0_0 bt253.2.1 bt253.2.2.1 bt253.2.2.2)))) else (none)) else (none)))) = some (r1, r2, r3, r4) := h
 clear h
 replace H := Option.bind_eq_some_iff.mp H
 obtain ⟨⟨t242, t243, t244, t245⟩, A30, H⟩ := H
 try dsimp only at H
 have A3 := Aside0.mk A30
 clear A30
 replace H := Option.bind_eq_some_iff.mp H
 obtain ⟨⟨t246, t247, t248, t249⟩, A40, H⟩ := H
 try dsimp only at H
 have A4 := Aside0.mk A40
 clear A40
 by_cases c5 : 0 ≤ t246
 ·rw [if_pos c5] at H
  have c5b0 : decide (0 ≤ t246) = true := decide_eq_true c5; clear c5
  by_cases c6 : t246 < 17
  ·rw [if_pos c6] at H
   have c6b0 : decide (t246 < 17) = true := decide_eq_true c6; clear c6; obtain ⟨y250, hy250⟩ : ∃ y_ : List Int, y_ = (([bt (⟨#[32, 10, 48, 97, 45, 110, 44, 58, 93, 255, 40, 120, 34, 49, 128, 225, 59]⟩ : ByteArray) t246] : List Int)) := ⟨_, rfl⟩
   replace H : (if t242 = (a1.size : Int) then (spec_l01Src_spoil.j0 k a1 t242 (strOfNums y250) true s0_0 t247 t248 t249) else ((spec_l01Src_one.f s0_0 t247 t248 t249 3).bind fun bt253 => (spec_l01Src_spoil.j0 k a1 t242 (strOfNums y250) bt253.1 s0_0 bt253.2.1 bt253.2.2.1 bt253.2.2.2))) = some (r1, r2, r3, r4) := by first | (rw [hy250]; with_reducible exact H) | (have H2_ := (Option.bind_some _ _).symm.trans H; rw [hy250]; with_reducible exact H2_) | (have H2_ := (Option.bind_some _ _).symm.trans H; with_reducible exact H2_) | with_reducible exact H | (rw [hy250]; exact H) | exact H
   have Ny250 := Aside0.mk hy250; clear hy250; have HC8 := Aside0.mk H; clear H
   go_enter Tryd.func148, Tryd.ntmps148
   go_upto_region 3 with (first | (go_at_call 97; (with_reducible refine (spec_l01Src_n.calls g s0_0 s0_1 s0_2 s0_3 (wrap64 ((a1.size : Int) + 1)) t242 t243 t244 t245 w0 _ ?side1 ?side2 A3.out).mono ?_); (case side1 => exact isA); (case side2 => exact belowI); rintro e w9 ⟨rfl, hi, hb, hk⟩; have n0_ := Aside0.mk (KeepBut.trans (keepA) hk (.inl rfl)); have n1_ := Aside0.mk (hb); have n2_ := Aside0.mk (hi); clear HK; clear HB; clear HI0; have HK := n0_; have HB := n1_; have HI0 := n2_; clear n0_ n1_ n2_; (try clear hb); (try clear hb2); (try clear hk); (try clear hi)) | (go_at_call 97; (with_reducible refine (spec_l01Src_n.calls g s0_0 t243 t244 t245 17 t246 t247 t248 t249 w0 _ ?side1 ?side2 A4.out).mono ?_); (case side1 => exact isA); (case side2 => exact belowI); rintro e w10 ⟨rfl, hi, hb, hk⟩; have n0_ := Aside0.mk (KeepBut.trans (keepA) hk (.inl rfl)); have n1_ := Aside0.mk (hb); have n2_ := Aside0.mk (hi); clear HK; clear HB; clear HI0; have HK := n0_; have HB := n1_; have HI0 := n2_; clear n0_ n1_ n2_; (try clear hb); (try clear hb2); (try clear hk); (try clear hi); have p7 : 0 ≤ (t246 : Int) := of_decide_eq_true (by first | (with_reducible assumption) | assumption); have q7 : t246 < (17 : Int) := of_decide_eq_true (by first | (with_reducible assumption) | assumption); have hx7 := bt_at (⟨#[32, 10, 48, 97, 45, 110, 44, 58, 93, 255, 40, 120, 34, 49, 128, 225, 59]⟩ : ByteArray) t246; replace p7 := eq_true p7; replace q7 := eq_true q7) | ((with_reducible refine gate_dst (N := 15) rfl ?_); refine Kd.R_lit (Kd.int .u8) _ 5 ?hg (N := 15) ?hd (xs := ([bt (⟨#[32, 10, 48, 97, 45, 110, 44, 58, 93, 255, 40, 120, 34, 49, 128, 225, 59]⟩ : ByteArray) t246] : List Int)) (inner := [.int .u8 (bt (⟨#[32, 10, 48, 97, 45, 110, 44, 58, 93, 255, 40, 120, 34, 49, 128, 225, 59]⟩ : ByteArray) t246)]) (ok := fun _ => True) (okp := fun _ => True) ?hr ?hp (fun _ hk => hk) trivial (Below.refl _ _) (Nat.le_refl _) (by simp) ?_; (case hd => rfl); (case hg => rfl); (case hr => first | (go_simp; done) | (go_simp; rfl)); (case hp => exact (Reps.one (show Kd.M (Kd.int .u8) _ _ _ (bt (⟨#[32, 10, 48, 97, 45, 110, 44, 58, 93, 255, 40, 120, 34, 49, 128, 225, 59]⟩ : ByteArray) t246) [.int .u8 (bt (⟨#[32, 10, 48, 97, 45, 110, 44, 58, 93, 255, 40, 120, 34, 49, 128, 225, 59]⟩ : ByteArray) t246)] from rfl) (Reps.none _ _))); intro v251 w11 ho12 hb hg_ hnew_; clear hg_ hnew_; (first | rw [← Ny250.out] at ho12 | (simp only [Int.reduceToNat] at ho12; rw [← Ny250.out] at ho12)); have n0_ := Aside0.mk (Kd.R_lower ho12 (keep_size (w := w) (g := g) (row := none) (keepA))); have n1_ := Aside0.mk (IsS95.below (isA) hb); have n2_ := Aside0.mk (KeepBut.trans (keepA) (KeepBut.of_below hb g none) (.inl rfl)); have n3_ := Aside0.mk (below_step (belowI) hb); clear HI0; clear HK; clear HB; have HO252 := n0_; have HI0 := n1_; have HK := n2_; have HB := n3_; clear n0_ n1_ n2_ n3_; clear hb ho12; have hcv13 := own_string (P := Tryd.prog) Tryd.underlying22 Tryd.underlying5 Tryd.underlying9 (Kd.own_of_R HO252.out)))
   repeat (go_quiet (first | (go_at_call 97; (with_reducible refine (spec_l01Src_n.calls g s0_0 s0_1 s0_2 s0_3 (wrap64 ((a1.size : Int) + 1)) t242 t243 t244 t245 w0 _ ?side1 ?side2 A3.out).mono ?_); (case side1 => exact isA); (case side2 => exact belowI); rintro e w9 ⟨rfl, hi, hb, hk⟩; have n0_ := Aside0.mk (KeepBut.trans (keepA) hk (.inl rfl)); have n1_ := Aside0.mk (hb); have n2_ := Aside0.mk (hi); clear HK; clear HB; clear HI0; have HK := n0_; have HB := n1_; have HI0 := n2_; clear n0_ n1_ n2_; (try clear hb); (try clear hb2); (try clear hk); (try clear hi)) | (go_at_call 97; (with_reducible refine (spec_l01Src_n.calls g s0_0 t243 t244 t245 17 t246 t247 t248 t249 w0 _ ?side1 ?side2 A4.out).mono ?_); (case side1 => exact isA); (case side2 => exact belowI); rintro e w10 ⟨rfl, hi, hb, hk⟩; have n0_ := Aside0.mk (KeepBut.trans (keepA) hk (.inl rfl)); have n1_ := Aside0.mk (hb); have n2_ := Aside0.mk (hi); clear HK; clear HB; clear HI0; have HK := n0_; have HB := n1_; have HI0 := n2_; clear n0_ n1_ n2_; (try clear hb); (try clear hb2); (try clear hk); (try clear hi); have p7 : 0 ≤ (t246 : Int) := of_decide_eq_true (by first | (with_reducible assumption) | assumption); have q7 : t246 < (17 : Int) := of_decide_eq_true (by first | (with_reducible assumption) | assumption); have hx7 := bt_at (⟨#[32, 10, 48, 97, 45, 110, 44, 58, 93, 255, 40, 120, 34, 49, 128, 225, 59]⟩ : ByteArray) t246; replace p7 := eq_true p7; replace q7 := eq_true q7) | ((with_reducible refine gate_dst (N := 15) rfl ?_); refine Kd.R_lit (Kd.int .u8) _ 5 ?hg (N := 15) ?hd (xs := ([bt (⟨#[32, 10, 48, 97, 45, 110, 44, 58, 93, 255, 40, 120, 34, 49, 128, 225, 59]⟩ : ByteArray) t246] : List Int)) (inner := [.int .u8 (bt (⟨#[32, 10, 48, 97, 45, 110, 44, 58, 93, 255, 40, 120, 34, 49, 128, 225, 59]⟩ : ByteArray) t246)]) (ok := fun _ => True) (okp := fun _ => True) ?hr ?hp (fun _ hk => hk) trivial (Below.refl _ _) (Nat.le_refl _) (by simp) ?_; (case hd => rfl); (case hg => rfl); (case hr => first | (go_simp; done) | (go_simp; rfl)); (case hp => exact (Reps.one (show Kd.M (Kd.int .u8) _ _ _ (bt (⟨#[32, 10, 48, 97, 45, 110, 44, 58, 93, 255, 40, 120, 34, 49, 128, 225, 59]⟩ : ByteArray) t246) [.int .u8 (bt (⟨#[32, 10, 48, 97, 45, 110, 44, 58, 93, 255, 40, 120, 34, 49, 128, 225, 59]⟩ : ByteArray) t246)] from rfl) (Reps.none _ _))); intro v251 w11 ho12 hb hg_ hnew_; clear hg_ hnew_; (first | rw [← Ny250.out] at ho12 | (simp only [Int.reduceToNat] at ho12; rw [← Ny250.out] at ho12)); have n0_ := Aside0.mk (Kd.R_lower ho12 (keep_size (w := w) (g := g) (row := none) (keepA))); have n1_ := Aside0.mk (IsS95.below (isA) hb); have n2_ := Aside0.mk (KeepBut.trans (keepA) (KeepBut.of_below hb g none) (.inl rfl)); have n3_ := Aside0.mk (below_step (belowI) hb); clear HI0; clear HK; clear HB; have HO252 := n0_; have HI0 := n1_; have HK := n2_; have HB := n3_; clear n0_ n1_ n2_ n3_; clear hb ho12; have hcv13 := own_string (P := Tryd.prog) Tryd.underlying22 Tryd.underlying5 Tryd.underlying9 (Kd.own_of_R HO252.out))); go_upto_region 3 with (first | (go_at_call 97; (with_reducible refine (spec_l01Src_n.calls g s0_0 s0_1 s0_2 s0_3 (wrap64 ((a1.size : Int) + 1)) t242 t243 t244 t245 w0 _ ?side1 ?side2 A3.out).mono ?_); (case side1 => exact isA); (case side2 => exact belowI); rintro e w9 ⟨rfl, hi, hb, hk⟩; have n0_ := Aside0.mk (KeepBut.trans (keepA) hk (.inl rfl)); have n1_ := Aside0.mk (hb); have n2_ := Aside0.mk (hi); clear HK; clear HB; clear HI0; have HK := n0_; have HB := n1_; have HI0 := n2_; clear n0_ n1_ n2_; (try clear hb); (try clear hb2); (try clear hk); (try clear hi)) | (go_at_call 97; (with_reducible refine (spec_l01Src_n.calls g s0_0 t243 t244 t245 17 t246 t247 t248 t249 w0 _ ?side1 ?side2 A4.out).mono ?_); (case side1 => exact isA); (case side2 => exact belowI); rintro e w10 ⟨rfl, hi, hb, hk⟩; have n0_ := Aside0.mk (KeepBut.trans (keepA) hk (.inl rfl)); have n1_ := Aside0.mk (hb); have n2_ := Aside0.mk (hi); clear HK; clear HB; clear HI0; have HK := n0_; have HB := n1_; have HI0 := n2_; clear n0_ n1_ n2_; (try clear hb); (try clear hb2); (try clear hk); (try clear hi); have p7 : 0 ≤ (t246 : Int) := of_decide_eq_true (by first | (with_reducible assumption) | assumption); have q7 : t246 < (17 : Int) := of_decide_eq_true (by first | (with_reducible assumption) | assumption); have hx7 := bt_at (⟨#[32, 10, 48, 97, 45, 110, 44, 58, 93, 255, 40, 120, 34, 49, 128, 225, 59]⟩ : ByteArray) t246; replace p7 := eq_true p7; replace q7 := eq_true q7) | ((with_reducible refine gate_dst (N := 15) rfl ?_); refine Kd.R_lit (Kd.int .u8) _ 5 ?hg (N := 15) ?hd (xs := ([bt (⟨#[32, 10, 48, 97, 45, 110, 44, 58, 93, 255, 40, 120, 34, 49, 128, 225, 59]⟩ : ByteArray) t246] : List Int)) (inner := [.int .u8 (bt (⟨#[32, 10, 48, 97, 45, 110, 44, 58, 93, 255, 40, 120, 34, 49, 128, 225, 59]⟩ : ByteArray) t246)]) (ok := fun _ => True) (okp := fun _ => True) ?hr ?hp (fun _ hk => hk) trivial (Below.refl _ _) (Nat.le_refl _) (by simp) ?_; (case hd => rfl); (case hg => rfl); (case hr => first | (go_simp; done) | (go_simp; rfl)); (case hp => exact (Reps.one (show Kd.M (Kd.int .u8) _ _ _ (bt (⟨#[32, 10, 48, 97, 45, 110, 44, 58, 93, 255, 40, 120, 34, 49, 128, 225, 59]⟩ : ByteArray) t246) [.int .u8 (bt (⟨#[32, 10, 48, 97, 45, 110, 44, 58, 93, 255, 40, 120, 34, 49, 128, 225, 59]⟩ : ByteArray) t246)] from rfl) (Reps.none _ _))); intro v251 w11 ho12 hb hg_ hnew_; clear hg_ hnew_; (first | rw [← Ny250.out] at ho12 | (simp only [Int.reduceToNat] at ho12; rw [← Ny250.out] at ho12)); have n0_ := Aside0.mk (Kd.R_lower ho12 (keep_size (w := w) (g := g) (row := none) (keepA))); have n1_ := Aside0.mk (IsS95.below (isA) hb); have n2_ := Aside0.mk (KeepBut.trans (keepA) (KeepBut.of_below hb g none) (.inl rfl)); have n3_ := Aside0.mk (below_step (belowI) hb); clear HI0; clear HK; clear HB; have HO252 := n0_; have HI0 := n1_; have HK := n2_; have HB := n3_; clear n0_ n1_ n2_ n3_; clear hb ho12; have hcv13 := own_string (P := Tryd.prog) Tryd.underlying22 Tryd.underlying5 Tryd.underlying9 (Kd.own_of_R HO252.out))))
   (try simp only [Act.put, List.setIfInBounds_toArray, List.set_cons_zero, List.set_cons_succ])
   go_cut [24] (fun v24 wc => ∃ (kq : Nat) (x24_7 : Bool) (x1001_7 : Int) (x1002_7 : Int) (x1003_7 : Int), v24 = .bool x24_7 ∧ Aside0 (spec_l01Src_spoil.j0 kq a1 t242 (strOfNums y250) x24_7 s0_0 x1001_7 x1002_7 x1003_7 = some (r1, r2, r3, r4)) ∧ Aside0 (kq ≤ k) ∧ Aside0 (IsS95 w0 wc g s0_0 x1001_7 x1002_7 x1003_7) ∧ Aside0 (KeepBut w wc g none) ∧ Aside0 (Below w0.heap.size w0 wc))
   case first =>
    have H := HC8.out; clear HC8
    by_cases c14 : t242 = (a1.size : Int)
    ·rw [if_pos c14] at H
     have c14b0 : (t242 == (a1.size : Int)) = true := beq_iff_eq.mpr c14; have c14b1 : (t242 != (a1.size : Int)) = false := bne_eq_false_iff_eq.mpr c14; clear c14
     (first | rw [c14b0] | (simp only [i64_w, i32_w]; rw [c14b0]) | skip)
     have H' := Aside0.mk H; clear H
     go_wp2
     repeat (go_quiet (fail); try go_wp2)
     go_meet
     case rel => exact ⟨_, (true), (t247), (t248), (t249), (by first | rfl | (simp; done) | (simp [*]; done)), H', ⟨by first | omega | exact Nat.le_refl _⟩, ⟨isA⟩, ⟨keepA⟩, ⟨belowI⟩⟩
    rw [if_neg c14] at H; have c14b0 : (t242 == (a1.size : Int)) = false := beq_eq_false_iff_ne.mpr c14; have c14b1 : (t242 != (a1.size : Int)) = true := bne_iff_ne.mpr c14
    (first | rw [c14b0] | (simp only [i64_w, i32_w]; rw [c14b0]) | skip)
    replace H := Option.bind_eq_some_iff.mp H; obtain ⟨⟨t253, t254, t255, t256⟩, A150, H⟩ := H
    try dsimp only at H
    have A15 := Aside0.mk A150; clear A150; have H' := Aside0.mk H; clear H
    go_wp2_with (first | (go_at_call 120; (with_reducible refine (spec_l01Src_one.calls g s0_0 t247 t248 t249 3 t253 t254 t255 t256 w0 _ ?side1 ?side2 A15.out).mono ?_); (case side1 => exact isA); (case side2 => exact belowI); rintro e w16 ⟨rfl, hi, hb, hk⟩; have n0_ := Aside0.mk (Kd.R_mono (Kd.R_keep (IsS95.apart (show IsS95 w0 _ g s0_0 t247 t248 t249 from isA) (by (with_reducible repeat (first | apply Kd.R_alloc | apply Kd.R_drewN | apply Kd.R_drew)); exact HO252.out) (by decide)) hk (fun _ h => h.2)) (fun _ h => h.1)); have n1_ := Aside0.mk (KeepBut.trans (keepA) hk (.inl rfl)); have n2_ := Aside0.mk (hb); have n3_ := Aside0.mk (hi); clear HO252; clear HK; clear HB; clear HI0; have HO252 := n0_; have HK := n1_; have HB := n2_; have HI0 := n3_; clear n0_ n1_ n2_ n3_; (try clear hb); (try clear hb2); (try clear hk); (try clear hi)))
    repeat (go_quiet (first | (go_at_call 120; (with_reducible refine (spec_l01Src_one.calls g s0_0 t247 t248 t249 3 t253 t254 t255 t256 w0 _ ?side1 ?side2 A15.out).mono ?_); (case side1 => exact isA); (case side2 => exact belowI); rintro e w16 ⟨rfl, hi, hb, hk⟩; have n0_ := Aside0.mk (Kd.R_mono (Kd.R_keep (IsS95.apart (show IsS95 w0 _ g s0_0 t247 t248 t249 from isA) (by (with_reducible repeat (first | apply Kd.R_alloc | apply Kd.R_drewN | apply Kd.R_drew)); exact HO252.out) (by decide)) hk (fun _ h => h.2)) (fun _ h => h.1)); have n1_ := Aside0.mk (KeepBut.trans (keepA) hk (.inl rfl)); have n2_ := Aside0.mk (hb); have n3_ := Aside0.mk (hi); clear HO252; clear HK; clear HB; clear HI0; have HO252 := n0_; have HK := n1_; have HB := n2_; have HI0 := n3_; clear n0_ n1_ n2_ n3_; (try clear hb); (try clear hb2); (try clear hk); (try clear hi))); try go_wp2_with (first | (go_at_call 120; (with_reducible refine (spec_l01Src_one.calls g s0_0 t247 t248 t249 3 t253 t254 t255 t256 w0 _ ?side1 ?side2 A15.out).mono ?_); (case side1 => exact isA); (case side2 => exact belowI); rintro e w16 ⟨rfl, hi, hb, hk⟩; have n0_ := Aside0.mk (Kd.R_mono (Kd.R_keep (IsS95.apart (show IsS95 w0 _ g s0_0 t247 t248 t249 from isA) (by (with_reducible repeat (first | apply Kd.R_alloc | apply Kd.R_drewN | apply Kd.R_drew)); exact HO252.out) (by decide)) hk (fun _ h => h.2)) (fun _ h => h.1)); have n1_ := Aside0.mk (KeepBut.trans (keepA) hk (.inl rfl)); have n2_ := Aside0.mk (hb); have n3_ := Aside0.mk (hi); clear HO252; clear HK; clear HB; clear HI0; have HO252 := n0_; have HK := n1_; have HB := n2_; have HI0 := n3_; clear n0_ n1_ n2_ n3_; (try clear hb); (try clear hb2); (try clear hk); (try clear hi))))
    go_meet
    case rel => exact ⟨_, (t253), (t254), (t255), (t256), (by first | rfl | (simp; done) | (simp [*]; done)), H', ⟨by first | omega | exact Nat.le_refl _⟩, ⟨isA⟩, ⟨keepA⟩, ⟨belowI⟩⟩
   case rest =>
    clear HC8
    try clear c1; try clear hcv1; try clear p2; try clear c5; try clear c5b0; try clear c6; try clear c6b0; try clear p6; try clear p7; try clear q7; try clear hx7; try clear hcv13; try clear c14; try clear c14b0; try clear c14b1; try clear p7; try clear q7
    obtain ⟨kq, x24_7, x1001_7, x1002_7, x1003_7, rfl, HA, HJ7, HI0, HK, HB⟩ := hcut
    cases kq with
    | zero => exact absurd HA.out (by simp [spec_l01Src_spoil.j0])
    | succ kj7 =>
     have H := HA.out; clear HA; simp only [spec_l01Src_spoil.j0] at H
     by_cases c17 : x24_7 = true
     ·subst c17
      have H1 : (if 0 ≤ t242 then (if t242 ≤ (a1.size : Int) then (if (a1.extract 0 (t242 : Int).toNat).size + (strOfNums y250).size ≤ 9223372036854775807 then (if ((a1.extract 0 (t242 : Int).toNat) ++ (strOfNums y250)).size + (a1.extract (t242 : Int).toNat a1.size).size ≤ 9223372036854775807 then (some (((a1.extract 0 (t242 : Int).toNat) ++ (strOfNums y250)) ++ (a1.extract (t242 : Int).toNat a1.size), x1001_7, x1002_7, x1003_7)) else (none)) else (none)) else (none)) else (none)) = some (r1, r2, r3, r4) := by rw [if_pos rfl] at H; exact H
      clear H; have H := H1; clear H1
      by_cases c18 : 0 ≤ t242
      ·rw [if_pos c18] at H
       have c18b0 := eq_true c18; have c18b1 : decide (0 ≤ t242) = true := decide_eq_true c18; clear c18
       by_cases c19 : t242 ≤ (a1.size : Int)
       ·rw [if_pos c19] at H
        have c19b0 := eq_true c19; have c19b1 : decide (t242 ≤ (a1.size : Int)) = true := decide_eq_true c19; clear c19
        by_cases c20 : (a1.extract 0 (t242 : Int).toNat).size + (strOfNums y250).size ≤ 9223372036854775807
        ·rw [if_pos c20] at H
         have c20b0 := eq_true c20; have c20b1 : decide ((a1.extract 0 (t242 : Int).toNat).size + (strOfNums y250).size ≤ 9223372036854775807) = true := decide_eq_true c20
         try have c20b2 : (9223372036854775807 < (a1.extract 0 (t242 : Int).toNat).size + (strOfNums y250).size) = False := eq_false (Nat.not_lt.2 c20)
         have c21b0 := eq_true (of_decide_eq_true (by first | (with_reducible assumption) | assumption) : 0 ≤ t242)
         have c22b0 := eq_true (of_decide_eq_true (by first | (with_reducible assumption) | assumption) : t242 ≤ (a1.size : Int))
         by_cases c23 : ((a1.extract 0 (t242 : Int).toNat) ++ (strOfNums y250)).size + (a1.extract (t242 : Int).toNat a1.size).size ≤ 9223372036854775807
         ·rw [if_pos c23] at H
          have c23b0 := eq_true c23; have c23b1 : decide (((a1.extract 0 (t242 : Int).toNat) ++ (strOfNums y250)).size + (a1.extract (t242 : Int).toNat a1.size).size ≤ 9223372036854775807) = true := decide_eq_true c23
          try have c23b2 : (9223372036854775807 < ((a1.extract 0 (t242 : Int).toNat) ++ (strOfNums y250)).size + (a1.extract (t242 : Int).toNat a1.size).size) = False := eq_false (Nat.not_lt.2 c23)
          simp only [Option.some.injEq, Prod.mk.injEq] at H; obtain ⟨rfl, rfl, rfl, rfl⟩ := H
          go_wp2
          repeat (go_quiet (fail); try go_wp2)
          go_ret
          exact ⟨by first | rfl | (simp [errW_none, errW_some] <;> rfl) | (simp [*, errW_none, errW_some] <;> rfl), isA, belowI, keepA⟩
         rw [if_neg c23] at H
         exact absurd H (by simp)
        rw [if_neg c20] at H
        exact absurd H (by simp)
       rw [if_neg c19] at H
       exact absurd H (by simp)
      rw [if_neg c18] at H
      exact absurd H (by simp)
     replace c17 := Bool.eq_false_iff.mpr c17; subst c17
     have H1 : ((spec_l01Src_one.f s0_0 x1001_7 x1002_7 x1003_7 2).bind fun bt257 => (if bt257.1 = true then (if 0 ≤ t242 then (if t242 ≤ (a1.size : Int) then (if 0 ≤ (wrap64 (t242 + 1)) then (if (wrap64 (t242 + 1)) ≤ (a1.size : Int) then (if (a1.extract 0 (t242 : Int).toNat).size + (a1.extract ((wrap64 (t242 + 1)) : Int).toNat a1.size).size ≤ 9223372036854775807 then (some ((a1.extract 0 (t242 : Int).toNat) ++ (a1.extract ((wrap64 (t242 + 1)) : Int).toNat a1.size), bt257.2.1, bt257.2.2.1, bt257.2.2.2)) else (none)) else (none)) else (none)) else (none)) else (none)) else (if 0 ≤ t242 then (if t242 ≤ (a1.size : Int) then (if (a1.extract 0 (t242 : Int).toNat).size + (strOfNums y250).size ≤ 9223372036854775807 then (if 0 ≤ (wrap64 (t242 + 1)) then (if (wrap64 (t242 + 1)) ≤ (a1.size : Int) then (if ((a1.extract 0 (t242 : Int).toNat) ++ (strOfNums y250)).size + (a1.extract ((wrap64 (t242 + 1)) : Int).toNat a1.size).size ≤ 9223372036854775807 then (some (((a1.extract 0 (t242 : Int).toNat) ++ (strOfNums y250)) ++ (a1.extract ((wrap64 (t242 + 1)) : Int).toNat a1.size), bt257.2.1, bt257.2.2.1, bt257.2.2.2)) else (none)) else (none)) else (none)) else (none)) else (none)) else (none)))) = some (r1, r2, r3, r4) := by rw [if_neg (show ¬ (false = true) by decide)] at H; exact H
     clear H; have H := H1; clear H1; replace H := Option.bind_eq_some_iff.mp H; obtain ⟨⟨t257, t258, t259, t260⟩, A240, H⟩ := H
     try dsimp only at H
     have A24 := Aside0.mk A240; clear A240
     by_cases c25 : t257 = true
     ·subst c25
      have H1 : (if 0 ≤ t242 then (if t242 ≤ (a1.size : Int) then (if 0 ≤ (wrap64 (t242 + 1)) then (if (wrap64 (t242 + 1)) ≤ (a1.size : Int) then (if (a1.extract 0 (t242 : Int).toNat).size + (a1.extract ((wrap64 (t242 + 1)) : Int).toNat a1.size).size ≤ 9223372036854775807 then (some ((a1.extract 0 (t242 : Int).toNat) ++ (a1.extract ((wrap64 (t242 + 1)) : Int).toNat a1.size), t258, t259, t260)) else (none)) else (none)) else (none)) else (none)) else (none)) = some (r1, r2, r3, r4) := by rw [if_pos rfl] at H; exact H
      clear H; have H := H1; clear H1
      by_cases c26 : 0 ≤ t242
      ·rw [if_pos c26] at H
       have c26b0 := eq_true c26; have c26b1 : decide (0 ≤ t242) = true := decide_eq_true c26; clear c26
       by_cases c27 : t242 ≤ (a1.size : Int)
       ·rw [if_pos c27] at H
        have c27b0 := eq_true c27; have c27b1 : decide (t242 ≤ (a1.size : Int)) = true := decide_eq_true c27; clear c27; obtain ⟨ji28, hji28⟩ : ∃ j_ : Int, (wrap64 (t242 + 1)) = j_ := ⟨_, rfl⟩
        replace H : (if 0 ≤ (ji28) then (if (ji28) ≤ (a1.size : Int) then (if (a1.extract 0 (t242 : Int).toNat).size + (a1.extract ((ji28) : Int).toNat a1.size).size ≤ 9223372036854775807 then (some ((a1.extract 0 (t242 : Int).toNat) ++ (a1.extract ((ji28) : Int).toNat a1.size), t258, t259, t260)) else (none)) else (none)) else (none)) = some (r1, r2, r3, r4) := by first | (rw [hji28] at H; exact H) | (simp only [hji28] at H ⊢; exact H)
        (try rw [hji28] at A24)
        have hji28w : (IntKind.i64.wrap (t242 + 1)) = ji28 := (i64_w _).trans hji28
        by_cases c29 : 0 ≤ (ji28)
        ·rw [if_pos c29] at H
         have c29b0 := eq_true c29; have c29b1 : decide (0 ≤ (ji28)) = true := decide_eq_true c29; clear c29
         by_cases c30 : (ji28) ≤ (a1.size : Int)
         ·rw [if_pos c30] at H
          have c30b0 := eq_true c30; have c30b1 : decide ((ji28) ≤ (a1.size : Int)) = true := decide_eq_true c30; clear c30
          by_cases c31 : (a1.extract 0 (t242 : Int).toNat).size + (a1.extract ((ji28) : Int).toNat a1.size).size ≤ 9223372036854775807
          ·rw [if_pos c31] at H
           have c31b0 := eq_true c31; have c31b1 : decide ((a1.extract 0 (t242 : Int).toNat).size + (a1.extract ((ji28) : Int).toNat a1.size).size ≤ 9223372036854775807) = true := decide_eq_true c31
           try have c31b2 : (9223372036854775807 < (a1.extract 0 (t242 : Int).toNat).size + (a1.extract ((ji28) : Int).toNat a1.size).size) = False := eq_false (Nat.not_lt.2 c31)
           simp only [Option.some.injEq, Prod.mk.injEq] at H; obtain ⟨rfl, rfl, rfl, rfl⟩ := H
           go_wp2_with (first | (go_at_call 120; (with_reducible refine (spec_l01Src_one.calls g s0_0 x1001_7 x1002_7 x1003_7 2 true t258 t259 t260 w0 _ ?side1 ?side2 A24.out).mono ?_); (case side1 => exact isA); (case side2 => exact belowI); rintro e w32 ⟨rfl, hi, hb, hk⟩; have n0_ := Aside0.mk (KeepBut.trans (keepA) hk (.inl rfl)); have n1_ := Aside0.mk (hb); have n2_ := Aside0.mk (hi); clear HK; clear HB; clear HI0; have HK := n0_; have HB := n1_; have HI0 := n2_; clear n0_ n1_ n2_; (try clear hb); (try clear hb2); (try clear hk); (try clear hi)))
           repeat (go_quiet (first | (go_at_call 120; (with_reducible refine (spec_l01Src_one.calls g s0_0 x1001_7 x1002_7 x1003_7 2 true t258 t259 t260 w0 _ ?side1 ?side2 A24.out).mono ?_); (case side1 => exact isA); (case side2 => exact belowI); rintro e w32 ⟨rfl, hi, hb, hk⟩; have n0_ := Aside0.mk (KeepBut.trans (keepA) hk (.inl rfl)); have n1_ := Aside0.mk (hb); have n2_ := Aside0.mk (hi); clear HK; clear HB; clear HI0; have HK := n0_; have HB := n1_; have HI0 := n2_; clear n0_ n1_ n2_; (try clear hb); (try clear hb2); (try clear hk); (try clear hi))); try go_wp2_with (first | (go_at_call 120; (with_reducible refine (spec_l01Src_one.calls g s0_0 x1001_7 x1002_7 x1003_7 2 true t258 t259 t260 w0 _ ?side1 ?side2 A24.out).mono ?_); (case side1 => exact isA); (case side2 => exact belowI); rintro e w32 ⟨rfl, hi, hb, hk⟩; have n0_ := Aside0.mk (KeepBut.trans (keepA) hk (.inl rfl)); have n1_ := Aside0.mk (hb); have n2_ := Aside0.mk (hi); clear HK; clear HB; clear HI0; have HK := n0_; have HB := n1_; have HI0 := n2_; clear n0_ n1_ n2_; (try clear hb); (try clear hb2); (try clear hk); (try clear hi))))
           go_ret
           exact ⟨by first | rfl | (simp [errW_none, errW_some] <;> rfl) | (simp only [← hji28]; first | rfl | (simp [errW_none, errW_some] <;> rfl)) | (simp [*, errW_none, errW_some] <;> rfl), isA, belowI, keepA⟩
          rw [if_neg c31] at H
          exact absurd H (by simp)
         rw [if_neg c30] at H
         exact absurd H (by simp)
        rw [if_neg c29] at H
        exact absurd H (by simp)
       rw [if_neg c27] at H
       exact absurd H (by simp)
      rw [if_neg c26] at H
      exact absurd H (by simp)
     replace c25 := Bool.eq_false_iff.mpr c25; subst c25
     have H1 : (if 0 ≤ t242 then (if t242 ≤ (a1.size : Int) then (if (a1.extract 0 (t242 : Int).toNat).size + (strOfNums y250).size ≤ 9223372036854775807 then (if 0 ≤ (wrap64 (t242 + 1)) then (if (wrap64 (t242 + 1)) ≤ (a1.size : Int) then (if ((a1.extract 0 (t242 : Int).toNat) ++ (strOfNums y250)).size + (a1.extract ((wrap64 (t242 + 1)) : Int).toNat a1.size).size ≤ 9223372036854775807 then (some (((a1.extract 0 (t242 : Int).toNat) ++ (strOfNums y250)) ++ (a1.extract ((wrap64 (t242 + 1)) : Int).toNat a1.size), t258, t259, t260)) else (none)) else (none)) else (none)) else (none)) else (none)) else (none)) = some (r1, r2, r3, r4) := by rw [if_neg (show ¬ (false = true) by decide)] at H; exact H
     clear H; have H := H1; clear H1
     by_cases c33 : 0 ≤ t242
     ·rw [if_pos c33] at H
      have c33b0 := eq_true c33; have c33b1 : decide (0 ≤ t242) = true := decide_eq_true c33; clear c33
      by_cases c34 : t242 ≤ (a1.size : Int)
      ·rw [if_pos c34] at H
       have c34b0 := eq_true c34; have c34b1 : decide (t242 ≤ (a1.size : Int)) = true := decide_eq_true c34; clear c34
       by_cases c35 : (a1.extract 0 (t242 : Int).toNat).size + (strOfNums y250).size ≤ 9223372036854775807
       ·rw [if_pos c35] at H
        have c35b0 := eq_true c35; have c35b1 : decide ((a1.extract 0 (t242 : Int).toNat).size + (strOfNums y250).size ≤ 9223372036854775807) = true := decide_eq_true c35
        try have c35b2 : (9223372036854775807 < (a1.extract 0 (t242 : Int).toNat).size + (strOfNums y250).size) = False := eq_false (Nat.not_lt.2 c35)
        obtain ⟨ji36, hji36⟩ : ∃ j_ : Int, (wrap64 (t242 + 1)) = j_ := ⟨_, rfl⟩
        replace H : (if 0 ≤ (ji36) then (if (ji36) ≤ (a1.size : Int) then (if ((a1.extract 0 (t242 : Int).toNat) ++ (strOfNums y250)).size + (a1.extract ((ji36) : Int).toNat a1.size).size ≤ 9223372036854775807 then (some (((a1.extract 0 (t242 : Int).toNat) ++ (strOfNums y250)) ++ (a1.extract ((ji36) : Int).toNat a1.size), t258, t259, t260)) else (none)) else (none)) else (none)) = some (r1, r2, r3, r4) := by first | (rw [hji36] at H; exact H) | (simp only [hji36] at H ⊢; exact H)
        (try rw [hji36] at A24)
        have hji36w : (IntKind.i64.wrap (t242 + 1)) = ji36 := (i64_w _).trans hji36
        by_cases c37 : 0 ≤ (ji36)
        ·rw [if_pos c37] at H
         have c37b0 := eq_true c37; have c37b1 : decide (0 ≤ (ji36)) = true := decide_eq_true c37; clear c37
         by_cases c38 : (ji36) ≤ (a1.size : Int)
         ·rw [if_pos c38] at H
          have c38b0 := eq_true c38; have c38b1 : decide ((ji36) ≤ (a1.size : Int)) = true := decide_eq_true c38; clear c38
          by_cases c39 : ((a1.extract 0 (t242 : Int).toNat) ++ (strOfNums y250)).size + (a1.extract ((ji36) : Int).toNat a1.size).size ≤ 9223372036854775807
          ·rw [if_pos c39] at H
           have c39b0 := eq_true c39; have c39b1 : decide (((a1.extract 0 (t242 : Int).toNat) ++ (strOfNums y250)).size + (a1.extract ((ji36) : Int).toNat a1.size).size ≤ 9223372036854775807) = true := decide_eq_true c39
           try have c39b2 : (9223372036854775807 < ((a1.extract 0 (t242 : Int).toNat) ++ (strOfNums y250)).size + (a1.extract ((ji36) : Int).toNat a1.size).size) = False := eq_false (Nat.not_lt.2 c39)
           simp only [Option.some.injEq, Prod.mk.injEq] at H; obtain ⟨rfl, rfl, rfl, rfl⟩ := H
           go_wp2_with (first | (go_at_call 120; (with_reducible refine (spec_l01Src_one.calls g s0_0 x1001_7 x1002_7 x1003_7 2 false t258 t259 t260 w0 _ ?side1 ?side2 A24.out).mono ?_); (case side1 => exact isA); (case side2 => exact belowI); rintro e w40 ⟨rfl, hi, hb, hk⟩; have n0_ := Aside0.mk (KeepBut.trans (keepA) hk (.inl rfl)); have n1_ := Aside0.mk (hb); have n2_ := Aside0.mk (hi); clear HK; clear HB; clear HI0; have HK := n0_; have HB := n1_; have HI0 := n2_; clear n0_ n1_ n2_; (try clear hb); (try clear hb2); (try clear hk); (try clear hi)))
           repeat (go_quiet (first | (go_at_call 120; (with_reducible refine (spec_l01Src_one.calls g s0_0 x1001_7 x1002_7 x1003_7 2 false t258 t259 t260 w0 _ ?side1 ?side2 A24.out).mono ?_); (case side1 => exact isA); (case side2 => exact belowI); rintro e w40 ⟨rfl, hi, hb, hk⟩; have n0_ := Aside0.mk (KeepBut.trans (keepA) hk (.inl rfl)); have n1_ := Aside0.mk (hb); have n2_ := Aside0.mk (hi); clear HK; clear HB; clear HI0; have HK := n0_; have HB := n1_; have HI0 := n2_; clear n0_ n1_ n2_; (try clear hb); (try clear hb2); (try clear hk); (try clear hi))); try go_wp2_with (first | (go_at_call 120; (with_reducible refine (spec_l01Src_one.calls g s0_0 x1001_7 x1002_7 x1003_7 2 false t258 t259 t260 w0 _ ?side1 ?side2 A24.out).mono ?_); (case side1 => exact isA); (case side2 => exact belowI); rintro e w40 ⟨rfl, hi, hb, hk⟩; have n0_ := Aside0.mk (KeepBut.trans (keepA) hk (.inl rfl)); have n1_ := Aside0.mk (hb); have n2_ := Aside0.mk (hi); clear HK; clear HB; clear HI0; have HK := n0_; have HB := n1_; have HI0 := n2_; clear n0_ n1_ n2_; (try clear hb); (try clear hb2); (try clear hk); (try clear hi))))
           go_ret
           exact ⟨by first | rfl | (simp [errW_none, errW_some] <;> rfl) | (simp only [← hji36]; first | rfl | (simp [errW_none, errW_some] <;> rfl)) | (simp [*, errW_none, errW_some] <;> rfl), isA, belowI, keepA⟩
          rw [if_neg c39] at H
          exact absurd H (by simp)
         rw [if_neg c38] at H
         exact absurd H (by simp)
        rw [if_neg c37] at H
        exact absurd H (by simp)
       rw [if_neg c35] at H
       exact absurd H (by simp)
      rw [if_neg c34] at H
      exact absurd H (by simp)
     rw [if_neg c33] at H
     exact absurd H (by simp)
  rw [if_neg c6] at H
  exact absurd H (by simp)
 rw [if_neg c5] at H
 exact absurd H (by simp)

theorem spec_l01Src_spoil.join (k : Nat) (l : List Int) (t c : ByteArray) (x : Int) (b : Bool) (a m z : Int) (hl : l.length ≤ 140737488355328) (h0 : 0 ≤ a) (h1 : a ≤ (l.length : Int)) (ht : t.size ≤ 10000000) (hc : c.size ≤ 10) (hx : 0 ≤ x) (hx2 : x ≤ (t.size : Int)) (hb : b = false → x < (t.size : Int)) :
    YtdkoofdfkhogoaaDoorPts.Tot (spec_l01Src_spoil.j0 (k + 1) t x c b l a m z) (fun r => r.1.size ≤ t.size + c.size ∧ 0 ≤ r.2.1 ∧ r.2.1 ≤ (l.length : Int) ∧ r.2.2.2 = z) := by
  have s1 : (t.extract 0 x.toNat).size = x.toNat := by simp; omega
  have s2 : (t.extract x.toNat t.size).size = t.size - x.toNat := by simp
  simp only [spec_l01Src_spoil.j0]
  refine YtdkoofdfkhogoaaDoorPts.Tot.ite (fun hb1 => ?_) (fun hb1 => ?_)
  · rw [if_pos hx, if_pos hx2, if_pos (by rw [s1]; omega), if_pos (by rw [ByteArray.size_append, s1, s2]; omega)]
    exact YtdkoofdfkhogoaaDoorPts.Tot.mk ⟨by dsimp only; rw [ByteArray.size_append, ByteArray.size_append, s1, s2]; omega, h0, h1, rfl⟩
  · have hlt := hb (by simpa using hb1)
    have hw : wrap64 (x + 1) = x + 1 := by unfold wrap64; omega
    have s3 : (t.extract (x + 1).toNat t.size).size = t.size - (x + 1).toNat := by simp
    refine YtdkoofdfkhogoaaDoorPts.Tot.bind (spec_l01Src_one.tot l a m z 2 hl h0 h1 (by decide)) ?_
    rintro ⟨v, a1, m1, z1⟩ ⟨h2, h3, h4⟩
    dsimp only at h2 h3 h4 ⊢
    rw [hw]
    refine YtdkoofdfkhogoaaDoorPts.Tot.ite (fun hv => ?_) (fun hv => ?_)
    · rw [if_pos hx, if_pos hx2, if_pos (by omega), if_pos (by omega), if_pos (by rw [s1, s3]; omega)]
      exact YtdkoofdfkhogoaaDoorPts.Tot.mk ⟨by dsimp only; rw [ByteArray.size_append, s1, s3]; omega, h2, h3, h4⟩
    · rw [if_pos hx, if_pos hx2, if_pos (by rw [s1]; omega), if_pos (by omega), if_pos (by omega), if_pos (by rw [ByteArray.size_append, s1, s3]; omega)]
      exact YtdkoofdfkhogoaaDoorPts.Tot.mk ⟨by dsimp only; rw [ByteArray.size_append, ByteArray.size_append, s1, s3]; omega, h2, h3, h4⟩
theorem spec_l01Src_spoil.tot (k : Nat) (l : List Int) (a m z : Int) (t : ByteArray) (hl : l.length ≤ 140737488355328) (h0 : 0 ≤ a) (h1 : a ≤ (l.length : Int)) (ht : t.size ≤ 10000000) :
    YtdkoofdfkhogoaaDoorPts.Tot (spec_l01Src_spoil.f (k + 1) l a m z t) (fun r => r.1.size ≤ t.size + 1 ∧ 0 ≤ r.2.1 ∧ r.2.1 ≤ (l.length : Int) ∧ r.2.2.2 = z) := by
  unfold spec_l01Src_spoil.f
  have hw : wrap64 ((t.size : Int) + 1) = (t.size : Int) + 1 := by unfold wrap64; omega
  rw [hw]
  clear hw
  refine YtdkoofdfkhogoaaDoorPts.Tot.bind (spec_l01Src_n.tot l a m z ((t.size : Int) + 1) hl h0 h1 (by omega)) ?_
  rintro ⟨v, a1, m1, z1⟩ ⟨v1, v2, h2, h3, h4⟩
  dsimp only at v1 v2 h2 h3 h4 ⊢
  refine YtdkoofdfkhogoaaDoorPts.Tot.bind (spec_l01Src_n.tot l a1 m1 z1 17 hl h2 h3 (by decide)) ?_
  rintro ⟨w, a2, m2, z2⟩ ⟨w1, w2, h5, h6, h7⟩
  dsimp only at w1 w2 h5 h6 h7 ⊢
  subst h4 h7
  rw [if_pos w1, if_pos (by omega)]
  simp only [Option.bind_some]
  refine YtdkoofdfkhogoaaDoorPts.Tot.ite (fun he => ?_) (fun he => ?_)
  · refine (spec_l01Src_spoil.join k l t _ v true a2 m2 z2 hl h5 h6 ht (by rw [strOfNums_size]; simp) v1 (by omega) (by intro h; cases h)).mono ?_
    rintro ⟨s, a3, m3, z3⟩ ⟨q1, q2, q3, q4⟩
    dsimp only at q1 q2 q3 q4 ⊢
    rw [strOfNums_size] at q1
    exact ⟨q1, q2, q3, q4⟩
  · refine YtdkoofdfkhogoaaDoorPts.Tot.bind (spec_l01Src_one.tot l a2 m2 z2 3 hl h5 h6 (by decide)) ?_
    rintro ⟨b, a3, m3, z3⟩ ⟨h8, h9, h10⟩
    dsimp only at h8 h9 h10 ⊢
    subst h10
    refine (spec_l01Src_spoil.join k l t _ v b a3 m3 z3 hl h8 h9 ht (by rw [strOfNums_size]; simp) v1 (by omega) (by intro _; omega)).mono ?_
    rintro ⟨s, a4, m4, z4⟩ ⟨q1, q2, q3, q4⟩
    dsimp only at q1 q2 q3 q4 ⊢
    rw [strOfNums_size] at q1
    exact ⟨q1, q2, q3, q4⟩

end Go.Proofs.YtdkoofdfkhogoaaDoor.QFnEquivalent
