/- The law FnJoinNormal: at every input the call answers true (this text: contracts on its way, by a program of this session's; no condition of ours). -/
import Derived.Test.YtiabgmddnddeiaaDoorQFnJoinNormalx0
import Derived.Test.YtiabgmddnddeiaaDoorQFnJoinNormalx13
namespace Go.Proofs.YtiabgmddnddeiaaDoor.QFnJoinNormal
open Go.RowKit Go.Proofs.YtiabgmddnddeiaaDoorW.PrintWords Go.Proofs.YtiabgmddnddeiaaDoorW.PrintLast Go.Proofs.YtiabgmddnddeiaaDoorW.PrintMore
attribute [local go_sem] max2_int min2_int max_two min_two max_three min_three max_four min_four   -- for this text's walks alone
set_option linter.unusedVariables false
set_option linter.unusedSimpArgs false

/-! ### spec_l01Src_n: function 82 (by hand) -/
theorem relet_ {Goal : World → Prop} {W : World} (P : World → Prop) (hP : P W) (h : ∀ w2, P w2 → Goal w2) : Goal W := h W hP
def spec_l01Src_n.m1 (m : Int) : Int := Go.bits .xor .u64 m (IntKind.u64.wrap (m * 8192))
def spec_l01Src_n.m2 (m : Int) : Int := Go.bits .xor .u64 m (m / 128)
def spec_l01Src_n.m3 (m : Int) : Int := Go.bits .xor .u64 m (IntKind.u64.wrap (m * 131072))
def spec_l01Src_n.mix (m : Int) : Int := spec_l01Src_n.m3 (spec_l01Src_n.m2 (spec_l01Src_n.m1 m))
def spec_l01Src_n.out (v m a : Int) : Int := wrap64 ((IntKind.u64.wrap (v + m / 1048576)).tmod a)
def spec_l01Src_n.out0 (m a : Int) : Int := wrap64 ((IntKind.u64.wrap (m / 1048576)).tmod a)
def spec_l01Src_n.f (s0_0 : List Int) (s0_1 s0_2 s0_3 a1 : Int) : Option (Int × Int × Int × Int) :=
  if a1 ≤ 1 then some (0, s0_1, s0_2, s0_3)
  else if a1 ≤ 9223372036854775807 then
    (if s0_1 < (s0_0.length : Int) then (if 0 ≤ s0_1 then some (spec_l01Src_n.out (IntKind.u64.wrap (rd s0_0 s0_1)) (spec_l01Src_n.mix s0_2) a1, wrap64 (s0_1 + 1), spec_l01Src_n.mix s0_2, s0_3) else none)
     else some (spec_l01Src_n.out0 (spec_l01Src_n.mix s0_2) a1, s0_1, spec_l01Src_n.mix s0_2, s0_3))
  else none
set_option maxHeartbeats 2000000 in
set_option maxRecDepth 100000 in
theorem spec_l01Src_n.calls (g : Nat) (s0_0 : List Int) (s0_1 : Int) (s0_2 : Int) (s0_3 : Int) (a1 : Int) (r1 : Int) (r2 : Int) (r3 : Int) (r4 : Int) (w0 w : World) (hI : IsS134 w0 w g s0_0 s0_1 s0_2 s0_3) (hB : Below w0.heap.size w0 w) (h : spec_l01Src_n.f s0_0 s0_1 s0_2 s0_3 a1 = some (r1, r2, r3, r4)) :
    Calls Tryd.prog 82 #[.pointer (some ⟨g, 0, none⟩), .int .i64 a1] w fun e w' => e = .returned (.int .i64 r1) ∧ IsS134 w0 w' g s0_0 r2 r3 r4 ∧ Below w0.heap.size w0 w' ∧ KeepBut w w' g none := by
  have HI := hI
  obtain ⟨A0, c0, hblk, hge, hC⟩ := hI
  have k0 := cellS134_0 hblk
  have k1 := cellS134_1 hblk
  have k2 := cellS134_2 hblk
  have z1 := blk_frozen hblk 1
  have z2 := blk_frozen hblk 2
  have HK := KeepBut.refl w g none
  by_cases h1 : a1 ≤ 1
  · unfold spec_l01Src_n.f at h
    rw [if_pos h1] at h
    simp only [Option.some.injEq, Prod.mk.injEq] at h
    obtain ⟨rfl, rfl, rfl, rfl⟩ := h
    have HI := Aside0.mk HI
    have HB := Aside0.mk hB
    have HK := Aside0.mk HK
    clear hblk hge hC hB
    go_enter Tryd.func82, Tryd.ntmps82
    go_wp2
    go_ret
    exact ⟨rfl, HI.out, HB.out, HK.out⟩
  · by_cases h2 : a1 ≤ 9223372036854775807
    · by_cases h4 : s0_1 < (s0_0.length : Int)
      · by_cases h3 : 0 ≤ s0_1
        · skip
          have ho : Aside0 (spec_l01Src_n.out (IntKind.u64.wrap (rd s0_0 s0_1)) (spec_l01Src_n.m3 (spec_l01Src_n.m2 (spec_l01Src_n.m1 s0_2))) a1 = r1 ∧ wrap64 (s0_1 + 1) = r2 ∧ spec_l01Src_n.m3 (spec_l01Src_n.m2 (spec_l01Src_n.m1 s0_2)) = r3 ∧ s0_3 = r4) := by
            unfold spec_l01Src_n.f at h
            rw [if_neg h1, if_pos h2, if_pos h4, if_pos h3] at h
            simp only [Option.some.injEq, Prod.mk.injEq] at h
            exact ⟨h⟩
          clear h
          obtain ⟨ad, e119, hx0⟩ := Kd.at_int hC s0_1 h3 h4
          cases e119
          replace hx0 := (hB.cell (World.block_lt_of_cell? w0 _ hx0)).trans hx0
          have HI := Aside0.mk HI
          have HB := Aside0.mk hB
          have HK := Aside0.mk HK
          clear hblk hge hC hB
          have h1 : 1 < a1 := by omega
          go_enter Tryd.func82, Tryd.ntmps82
          go_wp2
          go_quiet (fail)
          go_wp2
          go_quiet (fail)
          go_wp2
          go_region
          go_wp2
          refine relet_ (Goal := fun w' => Code.wp _ _ _ _ w') (fun w2 => IsS134 w0 w2 g s0_0 (wrap64 (s0_1 + 1)) (Go.bits .xor .u64 s0_2 (IntKind.u64.wrap (s0_2 * 8192))) s0_3 ∧ Below w0.heap.size w0 w2 ∧ KeepBut w w2 g none) ⟨by repeat (first | (with_reducible first | exact HI.out | apply IsS134.alloc | apply IsS134.drewN | apply IsS134.drew | apply IsS134.set_1 | apply IsS134.set_2 | apply IsS134.set_3) | exact HI.out), by repeat (first | (with_reducible first | exact HB.out | apply below_alloc | apply pw_below_drewN | apply below_drew1 | refine below_set ?_ (IsS134.ge HI.out)) | exact HB.out), by repeat (first | (with_reducible first | exact HK.out | apply KeepBut.set_ | apply keep_drewN | apply keep_drew | apply keep_alloc) | exact HK.out)⟩ ?_
          clear k0 k1 k2 z1 z2 HI HB HK hx0
          rintro w2 ⟨hI, hB, hK⟩
          change IsS134 w0 w2 g s0_0 (wrap64 (s0_1 + 1)) (spec_l01Src_n.m1 s0_2) s0_3 at hI
          obtain ⟨x1, hx1⟩ : ∃ m, spec_l01Src_n.m1 s0_2 = m := ⟨_, rfl⟩
          rw [hx1] at hI ho
          clear hx1
          have HI := Aside0.mk hI
          have HB := Aside0.mk hB
          have HK := Aside0.mk hK
          obtain ⟨A0, c0, hblk, hge, hC⟩ := hI
          have k0 := cellS134_0 hblk
          have k1 := cellS134_1 hblk
          have k2 := cellS134_2 hblk
          have z1 := blk_frozen hblk 1
          have z2 := blk_frozen hblk 2
          clear hblk hge hC hB hK
          go_region
          go_wp2
          refine relet_ (Goal := fun w' => Code.wp _ _ _ _ w') (fun w2 => IsS134 w0 w2 g s0_0 (wrap64 (s0_1 + 1)) (Go.bits .xor .u64 x1 (x1 / 128)) s0_3 ∧ Below w0.heap.size w0 w2 ∧ KeepBut w w2 g none) ⟨by repeat (first | (with_reducible first | exact HI.out | apply IsS134.alloc | apply IsS134.drewN | apply IsS134.drew | apply IsS134.set_1 | apply IsS134.set_2 | apply IsS134.set_3) | exact HI.out), by repeat (first | (with_reducible first | exact HB.out | apply below_alloc | apply pw_below_drewN | apply below_drew1 | refine below_set ?_ (IsS134.ge HI.out)) | exact HB.out), by repeat (first | (with_reducible first | exact HK.out | apply KeepBut.set_ | apply keep_drewN | apply keep_drew | apply keep_alloc) | exact HK.out)⟩ ?_
          clear k0 k1 k2 z1 z2 HI HB HK
          rintro w2 ⟨hI, hB, hK⟩
          change IsS134 w0 w2 g s0_0 (wrap64 (s0_1 + 1)) (spec_l01Src_n.m2 x1) s0_3 at hI
          obtain ⟨x2, hx2⟩ : ∃ m, spec_l01Src_n.m2 x1 = m := ⟨_, rfl⟩
          rw [hx2] at hI ho
          clear hx2
          have HI := Aside0.mk hI
          have HB := Aside0.mk hB
          have HK := Aside0.mk hK
          obtain ⟨A0, c0, hblk, hge, hC⟩ := hI
          have k0 := cellS134_0 hblk
          have k1 := cellS134_1 hblk
          have k2 := cellS134_2 hblk
          have z1 := blk_frozen hblk 1
          have z2 := blk_frozen hblk 2
          clear hblk hge hC hB hK
          go_region
          go_wp2
          go_ret
          unfold spec_l01Src_n.m3 spec_l01Src_n.out at ho
          obtain ⟨e1, e2, e3, e4⟩ := ho.out
          subst e1 e2 e3 e4
          exact ⟨rfl, by repeat (first | (with_reducible first | exact HI.out | apply IsS134.alloc | apply IsS134.drewN | apply IsS134.drew | apply IsS134.set_1 | apply IsS134.set_2 | apply IsS134.set_3) | exact HI.out), by repeat (first | (with_reducible first | exact HB.out | apply below_alloc | apply pw_below_drewN | apply below_drew1 | refine below_set ?_ (IsS134.ge HI.out)) | exact HB.out), by repeat (first | (with_reducible first | exact HK.out | apply KeepBut.set_ | apply keep_drewN | apply keep_drew | apply keep_alloc) | exact HK.out)⟩
        · unfold spec_l01Src_n.f at h
          rw [if_neg h1, if_pos h2, if_pos h4, if_neg h3] at h
          cases h
      · skip
        have ho : Aside0 (spec_l01Src_n.out0 (spec_l01Src_n.m3 (spec_l01Src_n.m2 (spec_l01Src_n.m1 s0_2))) a1 = r1 ∧ s0_1 = r2 ∧ spec_l01Src_n.m3 (spec_l01Src_n.m2 (spec_l01Src_n.m1 s0_2)) = r3 ∧ s0_3 = r4) := by
          unfold spec_l01Src_n.f at h
          rw [if_neg h1, if_pos h2, if_neg h4] at h
          simp only [Option.some.injEq, Prod.mk.injEq] at h
          exact ⟨h⟩
        clear h
        have HI := Aside0.mk HI
        have HB := Aside0.mk hB
        have HK := Aside0.mk HK
        clear hblk hge hC hB
        have h1 : 1 < a1 := by omega
        have h4 : (s0_0.length : Int) ≤ s0_1 := by omega
        go_enter Tryd.func82, Tryd.ntmps82
        go_wp2
        go_quiet (fail)
        go_wp2
        go_region
        go_wp2
        refine relet_ (Goal := fun w' => Code.wp _ _ _ _ w') (fun w2 => IsS134 w0 w2 g s0_0 (s0_1) (Go.bits .xor .u64 s0_2 (IntKind.u64.wrap (s0_2 * 8192))) s0_3 ∧ Below w0.heap.size w0 w2 ∧ KeepBut w w2 g none) ⟨by repeat (first | (with_reducible first | exact HI.out | apply IsS134.alloc | apply IsS134.drewN | apply IsS134.drew | apply IsS134.set_1 | apply IsS134.set_2 | apply IsS134.set_3) | exact HI.out), by repeat (first | (with_reducible first | exact HB.out | apply below_alloc | apply pw_below_drewN | apply below_drew1 | refine below_set ?_ (IsS134.ge HI.out)) | exact HB.out), by repeat (first | (with_reducible first | exact HK.out | apply KeepBut.set_ | apply keep_drewN | apply keep_drew | apply keep_alloc) | exact HK.out)⟩ ?_
        clear k0 k1 k2 z1 z2 HI HB HK
        rintro w2 ⟨hI, hB, hK⟩
        change IsS134 w0 w2 g s0_0 (s0_1) (spec_l01Src_n.m1 s0_2) s0_3 at hI
        obtain ⟨x1, hx1⟩ : ∃ m, spec_l01Src_n.m1 s0_2 = m := ⟨_, rfl⟩
        rw [hx1] at hI ho
        clear hx1
        have HI := Aside0.mk hI
        have HB := Aside0.mk hB
        have HK := Aside0.mk hK
        obtain ⟨A0, c0, hblk, hge, hC⟩ := hI
        have k0 := cellS134_0 hblk
        have k1 := cellS134_1 hblk
        have k2 := cellS134_2 hblk
        have z1 := blk_frozen hblk 1
        have z2 := blk_frozen hblk 2
        clear hblk hge hC hB hK
        go_region
        go_wp2
        refine relet_ (Goal := fun w' => Code.wp _ _ _ _ w') (fun w2 => IsS134 w0 w2 g s0_0 (s0_1) (Go.bits .xor .u64 x1 (x1 / 128)) s0_3 ∧ Below w0.heap.size w0 w2 ∧ KeepBut w w2 g none) ⟨by repeat (first | (with_reducible first | exact HI.out | apply IsS134.alloc | apply IsS134.drewN | apply IsS134.drew | apply IsS134.set_1 | apply IsS134.set_2 | apply IsS134.set_3) | exact HI.out), by repeat (first | (with_reducible first | exact HB.out | apply below_alloc | apply pw_below_drewN | apply below_drew1 | refine below_set ?_ (IsS134.ge HI.out)) | exact HB.out), by repeat (first | (with_reducible first | exact HK.out | apply KeepBut.set_ | apply keep_drewN | apply keep_drew | apply keep_alloc) | exact HK.out)⟩ ?_
        clear k0 k1 k2 z1 z2 HI HB HK
        rintro w2 ⟨hI, hB, hK⟩
        change IsS134 w0 w2 g s0_0 (s0_1) (spec_l01Src_n.m2 x1) s0_3 at hI
        obtain ⟨x2, hx2⟩ : ∃ m, spec_l01Src_n.m2 x1 = m := ⟨_, rfl⟩
        rw [hx2] at hI ho
        clear hx2
        have HI := Aside0.mk hI
        have HB := Aside0.mk hB
        have HK := Aside0.mk hK
        obtain ⟨A0, c0, hblk, hge, hC⟩ := hI
        have k0 := cellS134_0 hblk
        have k1 := cellS134_1 hblk
        have k2 := cellS134_2 hblk
        have z1 := blk_frozen hblk 1
        have z2 := blk_frozen hblk 2
        clear hblk hge hC hB hK
        go_region
        go_wp2
        go_ret
        unfold spec_l01Src_n.m3 spec_l01Src_n.out0 at ho
        obtain ⟨e1, e2, e3, e4⟩ := ho.out
        subst e1 e2 e3 e4
        exact ⟨rfl, by repeat (first | (with_reducible first | exact HI.out | apply IsS134.alloc | apply IsS134.drewN | apply IsS134.drew | apply IsS134.set_1 | apply IsS134.set_2 | apply IsS134.set_3) | exact HI.out), by repeat (first | (with_reducible first | exact HB.out | apply below_alloc | apply pw_below_drewN | apply below_drew1 | refine below_set ?_ (IsS134.ge HI.out)) | exact HB.out), by repeat (first | (with_reducible first | exact HK.out | apply KeepBut.set_ | apply keep_drewN | apply keep_drew | apply keep_alloc) | exact HK.out)⟩
    · unfold spec_l01Src_n.f at h
      rw [if_neg h1, if_neg h2] at h
      cases h

theorem spec_l01Src_n.tot (l : List Int) (a m z w : Int) (hl : l.length ≤ 140737488355328) (h0 : 0 ≤ a) (h1 : a ≤ (l.length : Int)) (hw : w ≤ 9223372036854775807) :
    YtiabgmddnddeiaaDoorPts.Tot (spec_l01Src_n.f l a m z w) (fun r => 0 ≤ r.1 ∧ (r.1 < w ∨ r.1 = 0) ∧ 0 ≤ r.2.1 ∧ r.2.1 ≤ (l.length : Int) ∧ r.2.2.2 = z) := by
  have g : ∀ x : Int, 1 < w → 0 ≤ wrap64 ((IntKind.u64.wrap x).tmod w) ∧ wrap64 ((IntKind.u64.wrap x).tmod w) < w := by
    intro x hw1
    have hx : 0 ≤ IntKind.u64.wrap x := by simp [IntKind.wrap, IntKind.bits, IntKind.signed]; omega
    rw [Int.tmod_eq_emod_of_nonneg hx]
    have a1 := Int.emod_nonneg (IntKind.u64.wrap x) (show w ≠ 0 by omega)
    have a2 := Int.emod_lt_of_pos (IntKind.u64.wrap x) (show 0 < w by omega)
    obtain ⟨y, hy⟩ : ∃ y, IntKind.u64.wrap x % w = y := ⟨_, rfl⟩
    rw [hy] at a1 a2 ⊢
    clear hy hx
    unfold wrap64; omega
  unfold spec_l01Src_n.f
  by_cases c1 : w ≤ 1
  · rw [if_pos c1]
    exact YtiabgmddnddeiaaDoorPts.Tot.mk ⟨by simp, .inr rfl, h0, h1, rfl⟩
  · rw [if_neg c1, if_pos hw]
    have hw1 : 1 < w := by omega
    by_cases c2 : a < (l.length : Int)
    · rw [if_pos c2, if_pos h0]
      have e : wrap64 (a + 1) = a + 1 := by unfold wrap64; omega
      rw [e]
      unfold spec_l01Src_n.out
      exact YtiabgmddnddeiaaDoorPts.Tot.mk ⟨(g _ hw1).1, Or.inl (g _ hw1).2, by dsimp only; omega, by dsimp only; omega, rfl⟩
    · rw [if_neg c2]
      unfold spec_l01Src_n.out0
      exact YtiabgmddnddeiaaDoorPts.Tot.mk ⟨(g _ hw1).1, Or.inl (g _ hw1).2, h0, h1, rfl⟩
theorem isA {w0 W : World} {g : Nat} {l : List Int} {a b c : Int} (h : IsS134 w0 W g l a b c := by repeat (first | (with_reducible first | exact HI0.out | apply IsS134.alloc | apply IsS134.drewN | apply IsS134.drew | apply IsS134.set_1 | apply IsS134.set_2 | apply IsS134.set_3) | exact HI0.out)) : IsS134 w0 W g l a b c := h
theorem belowI {B : Nat} {w W : World} (h : Below B w W := by repeat (first | (with_reducible first | exact HB.out | apply below_alloc | apply pw_below_drewN | apply below_drew1 | refine below_set ?_ (IsS134.ge HI0.out)) | exact HB.out)) : Below B w W := h
theorem keepA {W0 W : World} {g : Nat} {row : Option Nat} (h : KeepBut W0 W g row := by repeat (first | (with_reducible first | exact HK.out | apply KeepBut.set_ | apply keep_drewN | apply keep_drew | apply keep_alloc) | exact HK.out)) : KeepBut W0 W g row := h
theorem spec_l01Src_n.callsA (g : Nat) (s0_0 : List Int) (s0_1 s0_2 s0_3 a0 r1 r2 r3 r4 : Int) (w0 W0 W : World) (h : spec_l01Src_n.f s0_0 s0_1 s0_2 s0_3 a0 = some (r1, r2, r3, r4))
    (hI : IsS134 w0 W g s0_0 s0_1 s0_2 s0_3 := by repeat (first | (with_reducible first | exact HI0.out | apply IsS134.alloc | apply IsS134.drewN | apply IsS134.drew | apply IsS134.set_1 | apply IsS134.set_2 | apply IsS134.set_3) | exact HI0.out))
    (hB : Below w0.heap.size w0 W := by repeat (first | (with_reducible first | exact HB.out | apply below_alloc | apply pw_below_drewN | apply below_drew1 | refine below_set ?_ (IsS134.ge HI0.out)) | exact HB.out))
    (hK : KeepBut W0 W g none := by repeat (first | (with_reducible first | exact HK.out | apply KeepBut.set_ | apply keep_drewN | apply keep_drew | apply keep_alloc) | exact HK.out)) :
    Calls Tryd.prog 82 #[.pointer (some ⟨g, 0, none⟩), .int .i64 a0] W fun e w' => e = .returned (.int .i64 r1) ∧ Aside0 (IsS134 w0 w' g s0_0 r2 r3 r4) ∧ Aside0 (Below w0.heap.size w0 w') ∧ Aside0 (KeepBut W0 w' g none) :=
  (spec_l01Src_n.calls g s0_0 s0_1 s0_2 s0_3 a0 r1 r2 r3 r4 w0 W hI hB h).mono (fun e w' hh => ⟨hh.1, ⟨hh.2.1⟩, ⟨hh.2.2.1⟩, ⟨KeepBut.trans hK hh.2.2.2 (.inl rfl)⟩⟩)

/-! ### spec_l01Src_one: function 79 -/
def spec_l01Src_one.f (s0_0 : List Int) (s0_1 : Int) (s0_2 : Int) (s0_3 : Int) (a1 : Int) : Option (Bool × Int × Int × Int) := (spec_l01Src_n.f s0_0 s0_1 s0_2 s0_3 a1).bind fun bt328 => (some ((bt328.1 == 0), bt328.2.1, bt328.2.2.1, bt328.2.2.2))
set_option maxHeartbeats 8000000 in
set_option maxRecDepth 100000 in
theorem spec_l01Src_one.calls (g : Nat) (s0_0 : List Int) (s0_1 : Int) (s0_2 : Int) (s0_3 : Int) (a1 : Int) (r1 : Bool) (r2 : Int) (r3 : Int) (r4 : Int) (w0 w : World) (hI : IsS134 w0 w g s0_0 s0_1 s0_2 s0_3) (hB : Below w0.heap.size w0 w) (h : spec_l01Src_one.f s0_0 s0_1 s0_2 s0_3 a1 = some (r1, r2, r3, r4)) :
    Calls Tryd.prog 79 #[.pointer (some ⟨g, 0, none⟩), .int .i64 a1] w fun e w' => e = .returned (.bool r1) ∧ IsS134 w0 w' g s0_0 r2 r3 r4 ∧ Below w0.heap.size w0 w' ∧ KeepBut w w' g none := by
  have HI0 := Aside0.mk hI
  have HK := Aside0.mk (KeepBut.refl w g none)
  have HL := Aside0.mk hB.size
  clear hI
  have HW0 := Aside0.mk hB.size
  have HB := Aside0.mk hB
  clear hB
  have H : ((spec_l01Src_n.f s0_0 s0_1 s0_2 s0_3 a1).bind fun bt328 => (some ((bt328.1 == 0), bt328.2.1, bt328.2.2.1, bt328.2.2.2))) = some (r1, r2, r3, r4) := h
  clear h
  replace H := Option.bind_eq_some_iff.mp H
  obtain ⟨⟨t328, t329, t330, t331⟩, A30, H⟩ := H
  replace H : (some ((t328 == 0), t329, t330, t331)) = some (r1, r2, r3, r4) := H
  have A3 := Aside0.mk A30
  clear A30
  simp only [Option.some.injEq, Prod.mk.injEq] at H
  obtain ⟨rfl, rfl, rfl, rfl⟩ := H
  go_enter Tryd.func79, Tryd.ntmps79
  go_wp2_with (first | ((with_reducible refine gate_callee (f := 82) rfl ?_); refine goesL_ (some 7) rfl rfl Tryd.func82 (by kernel_rfl) rfl #[.pointer (some ⟨g, 0, none⟩), .int .i64 a1] rfl (by (try simp only [List.map_toArray, List.map_cons, List.map_nil]); first | done | rfl | (simp only [List.length_drop, List.length_take]; rfl)) ?_; (with_reducible refine (spec_l01Src_n.calls g s0_0 s0_1 s0_2 s0_3 a1 t328 t329 t330 t331 w0 _ ?side1 ?side2 A3.out).mono ?_); (case side1 => repeat (first | (with_reducible first | exact HI0.out | apply IsS134.alloc | apply IsS134.drewN | apply IsS134.drew | apply IsS134.set_1 | apply IsS134.set_2 | apply IsS134.set_3) | exact HI0.out)); (case side2 => repeat (first | (with_reducible first | exact HB.out | apply below_alloc | apply pw_below_drewN | apply below_drew1 | refine below_set ?_ (IsS134.ge HI0.out)) | exact HB.out)); rintro e w4 ⟨rfl, hi, hb, hk⟩; refine ⟨_, rfl, ?_⟩; have n0_ := Aside0.mk (KeepBut.trans (by repeat (first | (with_reducible first | exact HK.out | apply KeepBut.set_ | apply keep_drewN | apply keep_drew | apply keep_alloc) | exact HK.out)) hk (.inl rfl)); have n1_ := Aside0.mk (hb); have n2_ := Aside0.mk (hi); clear HK; clear HB; clear HI0; have HK := n0_; have HB := n1_; have HI0 := n2_; clear n0_ n1_ n2_; (try clear hb); (try clear hb2); (try clear hk); (try clear hi)))
  go_ret
  exact ⟨by first | rfl | (simp [errW_none, errW_some] <;> rfl) | (simp [*, errW_none, errW_some] <;> rfl), by repeat (first | (with_reducible first | exact HI0.out | apply IsS134.alloc | apply IsS134.drewN | apply IsS134.drew | apply IsS134.set_1 | apply IsS134.set_2 | apply IsS134.set_3) | exact HI0.out), by repeat (first | (with_reducible first | exact HB.out | apply below_alloc | apply pw_below_drewN | apply below_drew1 | refine below_set ?_ (IsS134.ge HI0.out)) | exact HB.out), by repeat (first | (with_reducible first | exact HK.out | apply KeepBut.set_ | apply keep_drewN | apply keep_drew | apply keep_alloc) | exact HK.out)⟩

theorem spec_l01Src_one.tot (l : List Int) (a m z w : Int) (hl : l.length ≤ 140737488355328) (h0 : 0 ≤ a) (h1 : a ≤ (l.length : Int)) (hw : w ≤ 9223372036854775807) :
    YtiabgmddnddeiaaDoorPts.Tot (spec_l01Src_one.f l a m z w) (fun r => 0 ≤ r.2.1 ∧ r.2.1 ≤ (l.length : Int) ∧ r.2.2.2 = z) := by
  unfold spec_l01Src_one.f
  refine YtiabgmddnddeiaaDoorPts.Tot.bind (spec_l01Src_n.tot l a m z w hl h0 h1 hw) ?_
  rintro ⟨v, a1, m1, z1⟩ ⟨_, _, h2, h3, h4⟩
  exact YtiabgmddnddeiaaDoorPts.Tot.mk ⟨h2, h3, h4⟩

/-! ### spec_l01Src_normForm: function 77 -/
def spec_l01Src_normForm.f (s0_0 : List Int) (s0_1 : Int) (s0_2 : Int) (s0_3 : Int) : Option (Int × Int × Int × Int) := (spec_l01Src_one.f s0_0 s0_1 s0_2 s0_3 20).bind fun bt332 => (if bt332.1 = true then ((spec_l01Src_n.f s0_0 bt332.2.1 bt332.2.2.1 bt332.2.2.2 7).bind fun bt336 => (some (wrap64 (bt336.1 - 1), bt336.2.1, bt336.2.2.1, bt336.2.2.2))) else ((spec_l01Src_n.f s0_0 bt332.2.1 bt332.2.2.1 bt332.2.2.2 4).bind fun bt340 => (some (wrap64 (1 + bt340.1), bt340.2.1, bt340.2.2.1, bt340.2.2.2))))
set_option maxHeartbeats 8000000 in
set_option maxRecDepth 100000 in
theorem spec_l01Src_normForm.calls (g : Nat) (s0_0 : List Int) (s0_1 : Int) (s0_2 : Int) (s0_3 : Int) (r1 : Int) (r2 : Int) (r3 : Int) (r4 : Int) (w0 w : World) (hI : IsS134 w0 w g s0_0 s0_1 s0_2 s0_3) (hB : Below w0.heap.size w0 w) (h : spec_l01Src_normForm.f s0_0 s0_1 s0_2 s0_3 = some (r1, r2, r3, r4)) :
  Calls Tryd.prog 77 #[.pointer (some ⟨g, 0, none⟩)] w fun e w' => e = .returned (.int .i64 r1) ∧ IsS134 w0 w' g s0_0 r2 r3 r4 ∧ Below w0.heap.size w0 w' ∧ KeepBut w w' g none := by
 have HI0 := Aside0.mk hI
 have HK := Aside0.mk (KeepBut.refl w g none)
 have HL := Aside0.mk hB.size
 clear hI
 have HW0 := Aside0.mk hB.size
 have HB := Aside0.mk hB
 clear hB
 have H : ((spec_l01Src_one.f s0_0 s0_1 s0_2 s0_3 20).bind fun bt332 => (if bt332.1 = true then ((spec_l01Src_n.f s0_0 bt332.2.1 bt332.2.2.1 bt332.2.2.2 7).bind fun bt336 => (some (wrap64 (bt336.1 - 1), bt336.2.1, bt336.2.2.1, bt336.2.2.2))) else ((spec_l01Src_n.f s0_0 bt332.2.1 bt332.2.2.1 bt332.2.2.2 4).bind fun bt340 => (some (wrap64 (1 + bt340.1), bt340.2.1, bt340.2.2.1, bt340.2.2.2))))) = some (r1, r2, r3, r4) := h
 clear h
 replace H := Option.bind_eq_some_iff.mp H
 obtain ⟨⟨t332, t333, t334, t335⟩, A20, H⟩ := H
 try dsimp only at H
 have A2 := Aside0.mk A20
 clear A20
 by_cases c3 : t332 = true
 ·subst c3
  have H1 : ((spec_l01Src_n.f s0_0 t333 t334 t335 7).bind fun bt336 => (some (wrap64 (bt336.1 - 1), bt336.2.1, bt336.2.2.1, bt336.2.2.2))) = some (r1, r2, r3, r4) := by rw [if_pos rfl] at H; exact H
  clear H; have H := H1; clear H1; replace H := Option.bind_eq_some_iff.mp H; obtain ⟨⟨t336, t337, t338, t339⟩, A40, H⟩ := H
  try dsimp only at H
  have A4 := Aside0.mk A40; clear A40; simp only [Option.some.injEq, Prod.mk.injEq] at H; obtain ⟨rfl, rfl, rfl, rfl⟩ := H
  go_enter Tryd.func77, Tryd.ntmps77
  go_wp2_with (first | ((with_reducible refine gate_callee (f := 79) rfl ?_); refine goesL_ (some 4) rfl rfl Tryd.func79 (by kernel_rfl) rfl #[.pointer (some ⟨g, 0, none⟩), .int .i64 20] rfl (by (try simp only [List.map_toArray, List.map_cons, List.map_nil]); first | done | rfl) ?_; (with_reducible refine (spec_l01Src_one.calls g s0_0 s0_1 s0_2 s0_3 20 true t333 t334 t335 w0 _ ?side1 ?side2 A2.out).mono ?_); (case side1 => exact isA); (case side2 => exact belowI); rintro e w5 ⟨rfl, hi, hb, hk⟩; refine ⟨_, rfl, ?_⟩; have n0_ := Aside0.mk (KeepBut.trans (keepA) hk (.inl rfl)); have n1_ := Aside0.mk (hb); have n2_ := Aside0.mk (hi); clear HK; clear HB; clear HI0; have HK := n0_; have HB := n1_; have HI0 := n2_; clear n0_ n1_ n2_; (try clear hb); (try clear hb2); (try clear hk); (try clear hi)) | ((with_reducible refine gate_callee (f := 82) rfl ?_); refine goesL_ (some 6) rfl rfl Tryd.func82 (by kernel_rfl) rfl #[.pointer (some ⟨g, 0, none⟩), .int .i64 7] rfl (by (try simp only [List.map_toArray, List.map_cons, List.map_nil]); first | done | rfl) ?_; refine (spec_l01Src_n.callsA g s0_0 t333 t334 t335 7 t336 t337 t338 t339 w0 _ _ A4.out).mono ?_; rintro e w6 ⟨rfl, hi, hb, hk⟩; refine ⟨_, rfl, ?_⟩; replace HI0 := hi; replace HB := hb; replace HK := hk; clear hi hb hk))
  go_ret
  exact ⟨by first | rfl | (simp [errW_none, errW_some] <;> rfl) | (simp [*, errW_none, errW_some] <;> rfl), isA, belowI, keepA⟩
 replace c3 := Bool.eq_false_iff.mpr c3
 subst c3
 have H1 : ((spec_l01Src_n.f s0_0 t333 t334 t335 4).bind fun bt340 => (some (wrap64 (1 + bt340.1), bt340.2.1, bt340.2.2.1, bt340.2.2.2))) = some (r1, r2, r3, r4) := by rw [if_neg (show ¬ (false = true) by decide)] at H; exact H
 clear H
 have H := H1
 clear H1
 replace H := Option.bind_eq_some_iff.mp H
 obtain ⟨⟨t340, t341, t342, t343⟩, A70, H⟩ := H
 try dsimp only at H
 have A7 := Aside0.mk A70
 clear A70
 simp only [Option.some.injEq, Prod.mk.injEq] at H
 obtain ⟨rfl, rfl, rfl, rfl⟩ := H
 go_enter Tryd.func77, Tryd.ntmps77
 go_wp2_with (first | ((with_reducible refine gate_callee (f := 79) rfl ?_); refine goesL_ (some 4) rfl rfl Tryd.func79 (by kernel_rfl) rfl #[.pointer (some ⟨g, 0, none⟩), .int .i64 20] rfl (by (try simp only [List.map_toArray, List.map_cons, List.map_nil]); first | done | rfl) ?_; (with_reducible refine (spec_l01Src_one.calls g s0_0 s0_1 s0_2 s0_3 20 false t333 t334 t335 w0 _ ?side1 ?side2 A2.out).mono ?_); (case side1 => exact isA); (case side2 => exact belowI); rintro e w8 ⟨rfl, hi, hb, hk⟩; refine ⟨_, rfl, ?_⟩; have n0_ := Aside0.mk (KeepBut.trans (keepA) hk (.inl rfl)); have n1_ := Aside0.mk (hb); have n2_ := Aside0.mk (hi); clear HK; clear HB; clear HI0; have HK := n0_; have HB := n1_; have HI0 := n2_; clear n0_ n1_ n2_; (try clear hb); (try clear hb2); (try clear hk); (try clear hi)) | ((with_reducible refine gate_callee (f := 82) rfl ?_); refine goesL_ (some 9) rfl rfl Tryd.func82 (by kernel_rfl) rfl #[.pointer (some ⟨g, 0, none⟩), .int .i64 4] rfl (by (try simp only [List.map_toArray, List.map_cons, List.map_nil]); first | done | rfl) ?_; refine (spec_l01Src_n.callsA g s0_0 t333 t334 t335 4 t340 t341 t342 t343 w0 _ _ A7.out).mono ?_; rintro e w9 ⟨rfl, hi, hb, hk⟩; refine ⟨_, rfl, ?_⟩; replace HI0 := hi; replace HB := hb; replace HK := hk; clear hi hb hk))
 go_ret
 exact ⟨by first | rfl | (simp [errW_none, errW_some] <;> rfl) | (simp [*, errW_none, errW_some] <;> rfl), isA, belowI, keepA⟩

theorem spec_l01Src_normForm.tot (l : List Int) (a m z : Int) (hl : l.length ≤ 140737488355328) (h0 : 0 ≤ a) (h1 : a ≤ (l.length : Int)) :
    YtiabgmddnddeiaaDoorPts.Tot (spec_l01Src_normForm.f l a m z) (fun r => (-1 ≤ r.1 ∧ r.1 ≤ 5) ∧ 0 ≤ r.2.1 ∧ r.2.1 ≤ (l.length : Int) ∧ r.2.2.2 = z) := by
  unfold spec_l01Src_normForm.f
  refine YtiabgmddnddeiaaDoorPts.Tot.bind (spec_l01Src_one.tot l a m z 20 hl h0 h1 (by decide)) ?_
  rintro ⟨b, a3, m3, z3⟩ ⟨h9, h10, h11⟩
  dsimp only at h9 h10 h11 ⊢
  subst h11
  refine YtiabgmddnddeiaaDoorPts.Tot.ite (fun _ => ?_) (fun _ => ?_)
  · refine YtiabgmddnddeiaaDoorPts.Tot.bind (spec_l01Src_n.tot l _ _ _ 7 hl h9 h10 (by decide)) ?_
    rintro ⟨v, a1, m1, z1⟩ ⟨v1, v2, h2, h3, h4⟩
    dsimp only at v1 v2 h2 h3 h4 ⊢
    exact YtiabgmddnddeiaaDoorPts.Tot.mk ⟨by unfold wrap64; omega, h2, h3, h4⟩
  · refine YtiabgmddnddeiaaDoorPts.Tot.bind (spec_l01Src_n.tot l _ _ _ 4 hl h9 h10 (by decide)) ?_
    rintro ⟨v, a1, m1, z1⟩ ⟨v1, v2, h2, h3, h4⟩
    dsimp only at v1 v2 h2 h3 h4 ⊢
    exact YtiabgmddnddeiaaDoorPts.Tot.mk ⟨by unfold wrap64; omega, h2, h3, h4⟩

end Go.Proofs.YtiabgmddnddeiaaDoor.QFnJoinNormal
