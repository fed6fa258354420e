/- The law FnQuick: at every input the call answers true (this text: contracts on its way, by a program of this session's; no condition of ours). -/
import Derived.Test.YtiabgmddnddeiaaDoorQFnQuickx0
import Derived.Test.YtiabgmddnddeiaaDoorQFnQuickx8
import Derived.Test.YtiabgmddnddeiaaDoorQFnQuickx13
namespace Go.Proofs.YtiabgmddnddeiaaDoor.QFnQuick
open Go.RowKit Go.Proofs.YtiabgmddnddeiaaDoorW.PrintWords Go.Proofs.YtiabgmddnddeiaaDoorW.PrintLast Go.Proofs.YtiabgmddnddeiaaDoorW.PrintMore
attribute [local go_sem] max2_int min2_int max_two min_two max_three min_three max_four min_four   -- for this text's walks alone
set_option linter.unusedVariables false
set_option linter.unusedSimpArgs false

/-! ### spec_l01Src_n: function 82 (by hand) -/
theorem relet_ {Goal : World → Prop} {W : World} (P : World → Prop) (hP : P W) (h : ∀ w2, P w2 → Goal w2) : Goal W := h W hP
def spec_l01Src_n.m1 (m : Int) : Int := Go.bits .xor .u64 m (IntKind.u64.wrap (m * 8192))
def spec_l01Src_n.m2 (m : Int) : Int := Go.bits .xor .u64 m (m / 128)
def spec_l01Src_n.m3 (m : Int) : Int := Go.bits .xor .u64 m (IntKind.u64.wrap (m * 131072))
def spec_l01Src_n.mix (m : Int) : Int := spec_l01Src_n.m3 (spec_l01Src_n.m2 (spec_l01Src_n.m1 m))
def spec_l01Src_n.out (v m a : Int) : Int := wrap64 ((IntKind.u64.wrap (v + m / 1048576)).tmod a)
def spec_l01Src_n.out0 (m a : Int) : Int := wrap64 ((IntKind.u64.wrap (m / 1048576)).tmod a)
def spec_l01Src_n.f (s0_0 : List Int) (s0_1 s0_2 s0_3 a1 : Int) : Option (Int × Int × Int × Int) :=
  if a1 ≤ 1 then some (0, s0_1, s0_2, s0_3)
  else if a1 ≤ 9223372036854775807 then
    (if s0_1 < (s0_0.length : Int) then (if 0 ≤ s0_1 then some (spec_l01Src_n.out (IntKind.u64.wrap (rd s0_0 s0_1)) (spec_l01Src_n.mix s0_2) a1, wrap64 (s0_1 + 1), spec_l01Src_n.mix s0_2, s0_3) else none)
     else some (spec_l01Src_n.out0 (spec_l01Src_n.mix s0_2) a1, s0_1, spec_l01Src_n.mix s0_2, s0_3))
  else none
set_option maxHeartbeats 2000000 in
set_option maxRecDepth 100000 in
theorem spec_l01Src_n.calls (g : Nat) (s0_0 : List Int) (s0_1 : Int) (s0_2 : Int) (s0_3 : Int) (a1 : Int) (r1 : Int) (r2 : Int) (r3 : Int) (r4 : Int) (w0 w : World) (hI : IsS134 w0 w g s0_0 s0_1 s0_2 s0_3) (hB : Below w0.heap.size w0 w) (h : spec_l01Src_n.f s0_0 s0_1 s0_2 s0_3 a1 = some (r1, r2, r3, r4)) :
    Calls Tryd.prog 82 #[.pointer (some ⟨g, 0, none⟩), .int .i64 a1] w fun e w' => e = .returned (.int .i64 r1) ∧ IsS134 w0 w' g s0_0 r2 r3 r4 ∧ Below w0.heap.size w0 w' ∧ KeepBut w w' g none := by
  have HI := hI
  obtain ⟨A0, c0, hblk, hge, hC⟩ := hI
  have k0 := cellS134_0 hblk
  have k1 := cellS134_1 hblk
  have k2 := cellS134_2 hblk
  have z1 := blk_frozen hblk 1
  have z2 := blk_frozen hblk 2
  have HK := KeepBut.refl w g none
  by_cases h1 : a1 ≤ 1
  · unfold spec_l01Src_n.f at h
    rw [if_pos h1] at h
    simp only [Option.some.injEq, Prod.mk.injEq] at h
    obtain ⟨rfl, rfl, rfl, rfl⟩ := h
    have HI := Aside0.mk HI
    have HB := Aside0.mk hB
    have HK := Aside0.mk HK
    clear hblk hge hC hB
    go_enter Tryd.func82, Tryd.ntmps82
    go_wp2
    go_ret
    exact ⟨rfl, HI.out, HB.out, HK.out⟩
  · by_cases h2 : a1 ≤ 9223372036854775807
    · by_cases h4 : s0_1 < (s0_0.length : Int)
      · by_cases h3 : 0 ≤ s0_1
        · skip
          have ho : Aside0 (spec_l01Src_n.out (IntKind.u64.wrap (rd s0_0 s0_1)) (spec_l01Src_n.m3 (spec_l01Src_n.m2 (spec_l01Src_n.m1 s0_2))) a1 = r1 ∧ wrap64 (s0_1 + 1) = r2 ∧ spec_l01Src_n.m3 (spec_l01Src_n.m2 (spec_l01Src_n.m1 s0_2)) = r3 ∧ s0_3 = r4) := by
            unfold spec_l01Src_n.f at h
            rw [if_neg h1, if_pos h2, if_pos h4, if_pos h3] at h
            simp only [Option.some.injEq, Prod.mk.injEq] at h
            exact ⟨h⟩
          clear h
          obtain ⟨ad, e119, hx0⟩ := Kd.at_int hC s0_1 h3 h4
          cases e119
          replace hx0 := (hB.cell (World.block_lt_of_cell? w0 _ hx0)).trans hx0
          have HI := Aside0.mk HI
          have HB := Aside0.mk hB
          have HK := Aside0.mk HK
          clear hblk hge hC hB
          have h1 : 1 < a1 := by omega
          go_enter Tryd.func82, Tryd.ntmps82
          go_wp2
          go_quiet (fail)
          go_wp2
          go_quiet (fail)
          go_wp2
          go_region
          go_wp2
          refine relet_ (Goal := fun w' => Code.wp _ _ _ _ w') (fun w2 => IsS134 w0 w2 g s0_0 (wrap64 (s0_1 + 1)) (Go.bits .xor .u64 s0_2 (IntKind.u64.wrap (s0_2 * 8192))) s0_3 ∧ Below w0.heap.size w0 w2 ∧ KeepBut w w2 g none) ⟨by repeat (first | (with_reducible first | exact HI.out | apply IsS134.alloc | apply IsS134.drewN | apply IsS134.drew | apply IsS134.set_1 | apply IsS134.set_2 | apply IsS134.set_3) | exact HI.out), by repeat (first | (with_reducible first | exact HB.out | apply below_alloc | apply pw_below_drewN | apply below_drew1 | refine below_set ?_ (IsS134.ge HI.out)) | exact HB.out), by repeat (first | (with_reducible first | exact HK.out | apply KeepBut.set_ | apply keep_drewN | apply keep_drew | apply keep_alloc) | exact HK.out)⟩ ?_
          clear k0 k1 k2 z1 z2 HI HB HK hx0
          rintro w2 ⟨hI, hB, hK⟩
          change IsS134 w0 w2 g s0_0 (wrap64 (s0_1 + 1)) (spec_l01Src_n.m1 s0_2) s0_3 at hI
          obtain ⟨x1, hx1⟩ : ∃ m, spec_l01Src_n.m1 s0_2 = m := ⟨_, rfl⟩
          rw [hx1] at hI ho
          clear hx1
          have HI := Aside0.mk hI
          have HB := Aside0.mk hB
          have HK := Aside0.mk hK
          obtain ⟨A0, c0, hblk, hge, hC⟩ := hI
          have k0 := cellS134_0 hblk
          have k1 := cellS134_1 hblk
          have k2 := cellS134_2 hblk
          have z1 := blk_frozen hblk 1
          have z2 := blk_frozen hblk 2
          clear hblk hge hC hB hK
          go_region
          go_wp2
          refine relet_ (Goal := fun w' => Code.wp _ _ _ _ w') (fun w2 => IsS134 w0 w2 g s0_0 (wrap64 (s0_1 + 1)) (Go.bits .xor .u64 x1 (x1 / 128)) s0_3 ∧ Below w0.heap.size w0 w2 ∧ KeepBut w w2 g none) ⟨by repeat (first | (with_reducible first | exact HI.out | apply IsS134.alloc | apply IsS134.drewN | apply IsS134.drew | apply IsS134.set_1 | apply IsS134.set_2 | apply IsS134.set_3) | exact HI.out), by repeat (first | (with_reducible first | exact HB.out | apply below_alloc | apply pw_below_drewN | apply below_drew1 | refine below_set ?_ (IsS134.ge HI.out)) | exact HB.out), by repeat (first | (with_reducible first | exact HK.out | apply KeepBut.set_ | apply keep_drewN | apply keep_drew | apply keep_alloc) | exact HK.out)⟩ ?_
          clear k0 k1 k2 z1 z2 HI HB HK
          rintro w2 ⟨hI, hB, hK⟩
          change IsS134 w0 w2 g s0_0 (wrap64 (s0_1 + 1)) (spec_l01Src_n.m2 x1) s0_3 at hI
          obtain ⟨x2, hx2⟩ : ∃ m, spec_l01Src_n.m2 x1 = m := ⟨_, rfl⟩
          rw [hx2] at hI ho
          clear hx2
          have HI := Aside0.mk hI
          have HB := Aside0.mk hB
          have HK := Aside0.mk hK
          obtain ⟨A0, c0, hblk, hge, hC⟩ := hI
          have k0 := cellS134_0 hblk
          have k1 := cellS134_1 hblk
          have k2 := cellS134_2 hblk
          have z1 := blk_frozen hblk 1
          have z2 := blk_frozen hblk 2
          clear hblk hge hC hB hK
          go_region
          go_wp2
          go_ret
          unfold spec_l01Src_n.m3 spec_l01Src_n.out at ho
          obtain ⟨e1, e2, e3, e4⟩ := ho.out
          subst e1 e2 e3 e4
          exact ⟨rfl, by repeat (first | (with_reducible first | exact HI.out | apply IsS134.alloc | apply IsS134.drewN | apply IsS134.drew | apply IsS134.set_1 | apply IsS134.set_2 | apply IsS134.set_3) | exact HI.out), by repeat (first | (with_reducible first | exact HB.out | apply below_alloc | apply pw_below_drewN | apply below_drew1 | refine below_set ?_ (IsS134.ge HI.out)) | exact HB.out), by repeat (first | (with_reducible first | exact HK.out | apply KeepBut.set_ | apply keep_drewN | apply keep_drew | apply keep_alloc) | exact HK.out)⟩
        · unfold spec_l01Src_n.f at h
          rw [if_neg h1, if_pos h2, if_pos h4, if_neg h3] at h
          cases h
      · skip
        have ho : Aside0 (spec_l01Src_n.out0 (spec_l01Src_n.m3 (spec_l01Src_n.m2 (spec_l01Src_n.m1 s0_2))) a1 = r1 ∧ s0_1 = r2 ∧ spec_l01Src_n.m3 (spec_l01Src_n.m2 (spec_l01Src_n.m1 s0_2)) = r3 ∧ s0_3 = r4) := by
          unfold spec_l01Src_n.f at h
          rw [if_neg h1, if_pos h2, if_neg h4] at h
          simp only [Option.some.injEq, Prod.mk.injEq] at h
          exact ⟨h⟩
        clear h
        have HI := Aside0.mk HI
        have HB := Aside0.mk hB
        have HK := Aside0.mk HK
        clear hblk hge hC hB
        have h1 : 1 < a1 := by omega
        have h4 : (s0_0.length : Int) ≤ s0_1 := by omega
        go_enter Tryd.func82, Tryd.ntmps82
        go_wp2
        go_quiet (fail)
        go_wp2
        go_region
        go_wp2
        refine relet_ (Goal := fun w' => Code.wp _ _ _ _ w') (fun w2 => IsS134 w0 w2 g s0_0 (s0_1) (Go.bits .xor .u64 s0_2 (IntKind.u64.wrap (s0_2 * 8192))) s0_3 ∧ Below w0.heap.size w0 w2 ∧ KeepBut w w2 g none) ⟨by repeat (first | (with_reducible first | exact HI.out | apply IsS134.alloc | apply IsS134.drewN | apply IsS134.drew | apply IsS134.set_1 | apply IsS134.set_2 | apply IsS134.set_3) | exact HI.out), by repeat (first | (with_reducible first | exact HB.out | apply below_alloc | apply pw_below_drewN | apply below_drew1 | refine below_set ?_ (IsS134.ge HI.out)) | exact HB.out), by repeat (first | (with_reducible first | exact HK.out | apply KeepBut.set_ | apply keep_drewN | apply keep_drew | apply keep_alloc) | exact HK.out)⟩ ?_
        clear k0 k1 k2 z1 z2 HI HB HK
        rintro w2 ⟨hI, hB, hK⟩
        change IsS134 w0 w2 g s0_0 (s0_1) (spec_l01Src_n.m1 s0_2) s0_3 at hI
        obtain ⟨x1, hx1⟩ : ∃ m, spec_l01Src_n.m1 s0_2 = m := ⟨_, rfl⟩
        rw [hx1] at hI ho
        clear hx1
        have HI := Aside0.mk hI
        have HB := Aside0.mk hB
        have HK := Aside0.mk hK
        obtain ⟨A0, c0, hblk, hge, hC⟩ := hI
        have k0 := cellS134_0 hblk
        have k1 := cellS134_1 hblk
        have k2 := cellS134_2 hblk
        have z1 := blk_frozen hblk 1
        have z2 := blk_frozen hblk 2
        clear hblk hge hC hB hK
        go_region
        go_wp2
        refine relet_ (Goal := fun w' => Code.wp _ _ _ _ w') (fun w2 => IsS134 w0 w2 g s0_0 (s0_1) (Go.bits .xor .u64 x1 (x1 / 128)) s0_3 ∧ Below w0.heap.size w0 w2 ∧ KeepBut w w2 g none) ⟨by repeat (first | (with_reducible first | exact HI.out | apply IsS134.alloc | apply IsS134.drewN | apply IsS134.drew | apply IsS134.set_1 | apply IsS134.set_2 | apply IsS134.set_3) | exact HI.out), by repeat (first | (with_reducible first | exact HB.out | apply below_alloc | apply pw_below_drewN | apply below_drew1 | refine below_set ?_ (IsS134.ge HI.out)) | exact HB.out), by repeat (first | (with_reducible first | exact HK.out | apply KeepBut.set_ | apply keep_drewN | apply keep_drew | apply keep_alloc) | exact HK.out)⟩ ?_
        clear k0 k1 k2 z1 z2 HI HB HK
        rintro w2 ⟨hI, hB, hK⟩
        change IsS134 w0 w2 g s0_0 (s0_1) (spec_l01Src_n.m2 x1) s0_3 at hI
        obtain ⟨x2, hx2⟩ : ∃ m, spec_l01Src_n.m2 x1 = m := ⟨_, rfl⟩
        rw [hx2] at hI ho
        clear hx2
        have HI := Aside0.mk hI
        have HB := Aside0.mk hB
        have HK := Aside0.mk hK
        obtain ⟨A0, c0, hblk, hge, hC⟩ := hI
        have k0 := cellS134_0 hblk
        have k1 := cellS134_1 hblk
        have k2 := cellS134_2 hblk
        have z1 := blk_frozen hblk 1
        have z2 := blk_frozen hblk 2
        clear hblk hge hC hB hK
        go_region
        go_wp2
        go_ret
        unfold spec_l01Src_n.m3 spec_l01Src_n.out0 at ho
        obtain ⟨e1, e2, e3, e4⟩ := ho.out
        subst e1 e2 e3 e4
        exact ⟨rfl, by repeat (first | (with_reducible first | exact HI.out | apply IsS134.alloc | apply IsS134.drewN | apply IsS134.drew | apply IsS134.set_1 | apply IsS134.set_2 | apply IsS134.set_3) | exact HI.out), by repeat (first | (with_reducible first | exact HB.out | apply below_alloc | apply pw_below_drewN | apply below_drew1 | refine below_set ?_ (IsS134.ge HI.out)) | exact HB.out), by repeat (first | (with_reducible first | exact HK.out | apply KeepBut.set_ | apply keep_drewN | apply keep_drew | apply keep_alloc) | exact HK.out)⟩
    · unfold spec_l01Src_n.f at h
      rw [if_neg h1, if_neg h2] at h
      cases h

theorem spec_l01Src_n.tot (l : List Int) (a m z w : Int) (hl : l.length ≤ 140737488355328) (h0 : 0 ≤ a) (h1 : a ≤ (l.length : Int)) (hw : w ≤ 9223372036854775807) :
    YtiabgmddnddeiaaDoorPts.Tot (spec_l01Src_n.f l a m z w) (fun r => 0 ≤ r.1 ∧ (r.1 < w ∨ r.1 = 0) ∧ 0 ≤ r.2.1 ∧ r.2.1 ≤ (l.length : Int) ∧ r.2.2.2 = z) := by
  have g : ∀ x : Int, 1 < w → 0 ≤ wrap64 ((IntKind.u64.wrap x).tmod w) ∧ wrap64 ((IntKind.u64.wrap x).tmod w) < w := by
    intro x hw1
    have hx : 0 ≤ IntKind.u64.wrap x := by simp [IntKind.wrap, IntKind.bits, IntKind.signed]; omega
    rw [Int.tmod_eq_emod_of_nonneg hx]
    have a1 := Int.emod_nonneg (IntKind.u64.wrap x) (show w ≠ 0 by omega)
    have a2 := Int.emod_lt_of_pos (IntKind.u64.wrap x) (show 0 < w by omega)
    obtain ⟨y, hy⟩ : ∃ y, IntKind.u64.wrap x % w = y := ⟨_, rfl⟩
    rw [hy] at a1 a2 ⊢
    clear hy hx
    unfold wrap64; omega
  unfold spec_l01Src_n.f
  by_cases c1 : w ≤ 1
  · rw [if_pos c1]
    exact YtiabgmddnddeiaaDoorPts.Tot.mk ⟨by simp, .inr rfl, h0, h1, rfl⟩
  · rw [if_neg c1, if_pos hw]
    have hw1 : 1 < w := by omega
    by_cases c2 : a < (l.length : Int)
    · rw [if_pos c2, if_pos h0]
      have e : wrap64 (a + 1) = a + 1 := by unfold wrap64; omega
      rw [e]
      unfold spec_l01Src_n.out
      exact YtiabgmddnddeiaaDoorPts.Tot.mk ⟨(g _ hw1).1, Or.inl (g _ hw1).2, by dsimp only; omega, by dsimp only; omega, rfl⟩
    · rw [if_neg c2]
      unfold spec_l01Src_n.out0
      exact YtiabgmddnddeiaaDoorPts.Tot.mk ⟨(g _ hw1).1, Or.inl (g _ hw1).2, h0, h1, rfl⟩
theorem isA {w0 W : World} {g : Nat} {l : List Int} {a b c : Int} (h : IsS134 w0 W g l a b c := by repeat (first | (with_reducible first | exact HI0.out | apply IsS134.alloc | apply IsS134.drewN | apply IsS134.drew | apply IsS134.set_1 | apply IsS134.set_2 | apply IsS134.set_3) | exact HI0.out)) : IsS134 w0 W g l a b c := h
theorem belowI {B : Nat} {w W : World} (h : Below B w W := by repeat (first | (with_reducible first | exact HB.out | apply below_alloc | apply pw_below_drewN | apply below_drew1 | refine below_set ?_ (IsS134.ge HI0.out)) | exact HB.out)) : Below B w W := h
theorem keepA {W0 W : World} {g : Nat} {row : Option Nat} (h : KeepBut W0 W g row := by repeat (first | (with_reducible first | exact HK.out | apply KeepBut.set_ | apply keep_drewN | apply keep_drew | apply keep_alloc) | exact HK.out)) : KeepBut W0 W g row := h
theorem spec_l01Src_n.callsA (g : Nat) (s0_0 : List Int) (s0_1 s0_2 s0_3 a0 r1 r2 r3 r4 : Int) (w0 W0 W : World) (h : spec_l01Src_n.f s0_0 s0_1 s0_2 s0_3 a0 = some (r1, r2, r3, r4))
    (hI : IsS134 w0 W g s0_0 s0_1 s0_2 s0_3 := by repeat (first | (with_reducible first | exact HI0.out | apply IsS134.alloc | apply IsS134.drewN | apply IsS134.drew | apply IsS134.set_1 | apply IsS134.set_2 | apply IsS134.set_3) | exact HI0.out))
    (hB : Below w0.heap.size w0 W := by repeat (first | (with_reducible first | exact HB.out | apply below_alloc | apply pw_below_drewN | apply below_drew1 | refine below_set ?_ (IsS134.ge HI0.out)) | exact HB.out))
    (hK : KeepBut W0 W g none := by repeat (first | (with_reducible first | exact HK.out | apply KeepBut.set_ | apply keep_drewN | apply keep_drew | apply keep_alloc) | exact HK.out)) :
    Calls Tryd.prog 82 #[.pointer (some ⟨g, 0, none⟩), .int .i64 a0] W fun e w' => e = .returned (.int .i64 r1) ∧ Aside0 (IsS134 w0 w' g s0_0 r2 r3 r4) ∧ Aside0 (Below w0.heap.size w0 w') ∧ Aside0 (KeepBut W0 w' g none) :=
  (spec_l01Src_n.calls g s0_0 s0_1 s0_2 s0_3 a0 r1 r2 r3 r4 w0 W hI hB h).mono (fun e w' hh => ⟨hh.1, ⟨hh.2.1⟩, ⟨hh.2.2.1⟩, ⟨KeepBut.trans hK hh.2.2.2 (.inl rfl)⟩⟩)

/-! ### spec_DrawQuickCheck: function 58 (by hand) -/
/-- the state of the draws, whatever it holds -/
def Src (w0 W : World) (g : Nat) : Prop := ∃ (l : List Int) (a m z : Int), IsS134 w0 W g l a m z ∧ l.length ≤ 140737488355328 ∧ 0 ≤ a ∧ a ≤ (l.length : Int) ∧ 0 ≤ z ∧ z ≤ 12
/-- the state lies at g, and of the memory of w nothing else has turned -/
def St (w0 w W : World) (g : Nat) : Prop := Src w0 W g ∧ Below w0.heap.size w0 W ∧ KeepBut w W g none ∧ w0.heap.size ≤ w.heap.size
theorem Src.lt {w0 W : World} {g : Nat} (h : Src w0 W g) : g < W.heap.size := by obtain ⟨l, a, m, z, hI, _⟩ := h; exact hI.lt
theorem St.refl {w0 w : World} {g : Nat} (hI : Src w0 w g) (hB : Below w0.heap.size w0 w) : St w0 w w g := ⟨hI, hB, KeepBut.refl _ _ _, hB.size⟩
theorem St.self {w0 w W : World} {g : Nat} (h : St w0 w W g) : St w0 W W g := St.refl h.1 h.2.1
theorem St.trans {w0 w W W' : World} {g : Nat} (h : St w0 w W g) (k : St w0 W W' g) : St w0 w W' g := ⟨k.1, k.2.1, KeepBut.trans h.2.2.1 k.2.2.1 (.inl rfl), h.2.2.2⟩
theorem St.below {w0 w W W' : World} {g : Nat} (h : St w0 w W g) (hb : Below W.heap.size W W') : St w0 w W' g := by
  obtain ⟨⟨l, a, m, z, hI, q⟩, hB, hK, hle⟩ := h
  exact ⟨⟨l, a, m, z, hI.below hb, q⟩, below_step hB hb, KeepBut.trans hK (KeepBut.of_below hb g none) (.inl rfl), hle⟩
theorem St.alloc {w0 w W : World} {g : Nat} (h : St w0 w W g) (o : Obj) : St w0 w (W.alloc o) g := h.below (below_alloc (Below.refl _ _) o)
theorem St.drewN {w0 w W : World} {g : Nat} (h : St w0 w W g) (m : Nat) : St w0 w (W.drewN m) g := by
  obtain ⟨⟨l, a, x, z, hI, q⟩, hB, hK, hle⟩ := h
  exact ⟨⟨l, a, x, z, hI.drewN m, q⟩, pw_below_drewN hB m, keep_drewN hK m, hle⟩
theorem St.drew {w0 w W : World} {g : Nat} (h : St w0 w W g) : St w0 w W.drew g := by
  obtain ⟨⟨l, a, x, z, hI, q⟩, hB, hK, hle⟩ := h
  exact ⟨⟨l, a, x, z, hI.drew, q⟩, below_drew1 hB, keep_drew hK, hle⟩
theorem St.row {w0 w W W' : World} {g : Nat} {α : Type} {d : Kd α} {e : Nat} {base : Nat} {v : Value} {xs : List α} (h : St w0 w W g) (ho : d.R e W base (fun _ => True) v xs) (ht : ∀ q, q ∈ e :: d.E → q ≠ 134) (hk : St w0 W W' g) : d.R e W' base (fun _ => True) v xs := by
  obtain ⟨⟨l, a, m, z, hI, q⟩, hB, hK, hle⟩ := h
  exact Kd.R_mono (Kd.R_keep (IsS134.apart hI ho ht) hk.2.2.1 (fun _ h => h.2)) (fun _ h => h.1)
theorem St.grown {w0 w W W' : World} {g : Nat} {α : Type} {d : Kd α} {e : Nat} {v : Value} {xs : List α} (h : St w0 w W g) (ho : d.R e W w.heap.size (fun _ => True) v xs) (ht : e ≠ 134) (hg : W.grownBy W' v.ownBlock) (hb : Below w.heap.size W W') : St w0 w W' g := by
  obtain ⟨⟨l, a, m, z, hI, q⟩, hB, hK, hle⟩ := h
  exact ⟨⟨l, a, m, z, hI.grown hg (IsS134.own_ne hI ho ht), q⟩, below_weaken hB hle hb, KeepBut.trans hK (KeepBut.of_grown hg g) (Kd.R_base2 ho), hle⟩
theorem stA {w0 w W : World} {g : Nat} (h : St w0 w W g := by repeat (first | (with_reducible first | exact HS.out | apply St.alloc | apply St.drewN | apply St.drew) | exact HS.out)) : St w0 w W g := h
theorem nL {w0 w W : World} {g : Nat} (m : Int) (hm : m ≤ 9223372036854775807) (hS : St w0 w W g) :
    Calls Tryd.prog 82 #[.pointer (some ⟨g, 0, none⟩), .int .i64 m] W fun e w' => ∃ r : Int, e = .returned (.int .i64 r) ∧ 0 ≤ r ∧ (r < m ∨ r = 0) ∧ Aside0 (St w0 w w' g) ∧ Aside0 (St w0 W w' g) := by
  have hS' := hS
  obtain ⟨⟨l, a, x, z, hI, hl, h0, h1, hz⟩, hB, hK, hle⟩ := hS
  obtain ⟨⟨r, a', x', z'⟩, hf, q0, q1, q2, q3, q4⟩ := spec_l01Src_n.tot l a x z m hl h0 h1 hm
  refine (spec_l01Src_n.calls g l a x z m r a' x' z' w0 W hI hB hf).mono ?_
  rintro e w' ⟨rfl, hI', hB', hK'⟩
  dsimp only at q0 q1 q2 q3 q4
  have hst : St w0 W w' g := ⟨⟨l, a', x', z', hI', hl, q2, q3, by omega⟩, hB', hK', hB.size⟩
  exact ⟨r, rfl, q0, by omega, ⟨hS'.trans hst⟩, ⟨hst⟩⟩
/-- all cells are numbers -/
def ints (cs : Array Value) : Bool := cs.toList.all fun v => match v with | .int .i64 _ => true | _ => false
theorem ints_at {cs : Array Value} (h : ints cs = true) (i : Nat) (hi : i < cs.size) : ∃ p, cs[i]? = some (.int .i64 p) := by
  unfold ints at h
  have := List.all_eq_true.1 h cs[i] (by simp)
  rw [Array.getElem?_eq_getElem hi]
  split at this
  · rename_i p e; exact ⟨p, by rw [e]⟩
  · cases this
/-- a draw of an index of the row that has just been made -/
def litOk (o : Array Value) (m : Int) (t : Nat) : Bool := ints o && decide (m = o.size) && decide (1 ≤ o.size) && decide (o.size ≤ 10000) && decide (t ≠ 134)
theorem nLit {w0 w W : World} {g : Nat} {o : Array Value} {t : TypeId} (m : Int) (hok : litOk o m t = true) (hS : St w0 w (W.alloc (.cells o t)) g) :
    Calls Tryd.prog 82 #[.pointer (some ⟨g, 0, none⟩), .int .i64 m] (W.alloc (.cells o t)) fun e w' => ∃ r p : Int, e = .returned (.int .i64 r) ∧ (0 ≤ r) = True ∧ (r < m) = True ∧ w'.cell? ⟨W.heap.size, r.toNat, none⟩ = some (.int .i64 p) ∧ Aside0 (St w0 w w' g) := by
  unfold litOk at hok
  simp only [Bool.and_eq_true, decide_eq_true_eq] at hok
  obtain ⟨⟨⟨⟨hc, hm⟩, h1⟩, hm2⟩, ht⟩ := hok
  refine (nL m (by omega) hS).mono ?_
  rintro e w' ⟨r, rfl, h0, h2, hs, hk⟩
  have hlt : r < m := by omega
  obtain ⟨p, hp⟩ := ints_at hc r.toNat (by omega)
  have hb := blk_new W (.cells o t)
  have hne : W.heap.size ≠ g := by
    obtain ⟨⟨l, a, x, z, hI, _⟩, _⟩ := hS
    exact fun hh => hI.ne_blk hb ht hh.symm
  have hb' := hk.out.2.2.1.blk hb hne (by simp)
  exact ⟨r, p, rfl, eq_true h0, eq_true hlt, (blk_cell hb' _).trans hp, hs⟩
set_option maxHeartbeats 8000000 in
set_option maxRecDepth 100000 in
theorem oneL {w0 w W : World} {g : Nat} (m : Int) (hm : m ≤ 9223372036854775807) (hS : St w0 w W g) :
    Calls Tryd.prog 79 #[.pointer (some ⟨g, 0, none⟩), .int .i64 m] W fun e w' => ∃ r : Bool, e = .returned (.bool r) ∧ Aside0 (St w0 w w' g) ∧ Aside0 (St w0 W w' g) := by
  have HS := Aside0.mk hS.self
  have HT := Aside0.mk hS
  clear hS
  go_enter Tryd.func79, Tryd.ntmps79
  go_wp2_with (go_at_call 82; (with_reducible refine (nL _ hm stA).mono ?_); clear HS; rintro e w1 ⟨r, rfl, hr0, hr1, HS, -⟩)
  go_ret
  exact ⟨_, rfl, ⟨HT.out.trans HS.out⟩, HS⟩
/-- a new source of draws -/
theorem srcL {w0 w : World} (A0 : Option Addr) (c0 : Nat) (l0 : List Int) (hB : Below w0.heap.size w0 w) (hr0 : Kd.C (Kd.int .u8) w0 A0 l0.length l0) (hc0 : l0.length ≤ c0) (hl : l0.length ≤ 1048576) :
    Calls Tryd.prog 76 #[.slice A0 l0.length c0] w fun e w' => ∃ g : Nat, e = .returned (.pointer (some ⟨g, 0, none⟩)) ∧ Aside0 (St w0 w' w' g) := by
  have hf : spec_l01Source.f l0 = some (l0, 0, spec_l01Source.mix l0 (if l0.length < 64 then l0.length else 64), if 12 < (l0.length : Int) / 20 then 12 else (l0.length : Int) / 20) := if_pos (by omega)
  refine (spec_l01Source.calls A0 c0 l0 _ _ _ _ w0 w hB hr0 hc0 hf).mono ?_
  rintro e w' ⟨g, rfl, hI, hb, -⟩
  exact ⟨g, rfl, ⟨St.refl ⟨_, _, _, _, hI, by omega, by omega, by omega, by split <;> omega, by split <;> omega⟩ hb⟩⟩
theorem lit0 (W : World) (base : Nat) (hb : base ≤ W.heap.size) : Kd.R (Kd.int .i64) 2 (W.alloc (.cells #[] 2)) base (fun _ => True) (.slice (some ⟨W.heap.size, 0, none⟩) 0 0) [] := by
  refine ⟨fun k _ => trivial, [], ?_, Reps.none _ _⟩
  have h2 := World.ownsRow_lit (base := base) (e := 2) (size := (Kd.int .i64).sz) W #[] 0 hb (by simp [maxLen]) (by simp)
  simpa using h2
theorem St.size {w0 w W : World} {g : Nat} (h : St w0 w W g) : w.heap.size ≤ W.heap.size := h.2.2.1.1
theorem textC {A : Option Addr} {c : Nat} (l : List Int) (W : World) (hl : l.length ≤ 1000000) (h : Kd.C (Kd.int .i64) W A l.length l) (hc : l.length ≤ c) :
    Calls Tryd.prog 95 #[.slice A l.length c] W fun e w' => ∃ t : ByteArray, e = .returned (.string t) ∧ t.size ≤ 4 * l.length ∧ Below W.heap.size W w' := by
  refine (W_spec_l01Text.calls A c l _ W h hc (if_pos (by omega))).mono ?_
  rintro e w' ⟨rfl, hb⟩
  have hs := YtiabgmddnddeiaaDoorPts.encs_length l
  exact ⟨_, rfl, by rw [strOfNums_size]; omega, hb⟩
def spec_DrawQuickCheck.f (l0 : List Int) : Option (Int × ByteArray) := none
set_option maxHeartbeats 8000000 in
set_option maxRecDepth 100000 in
theorem pointL {w0 w W : World} {g : Nat} (hS : St w0 w W g) :
    Calls Tryd.prog 179 #[.pointer (some ⟨g, 0, none⟩)] W fun e w' => ∃ p : Int, e = .returned (.int .i64 p) ∧ Aside0 (St w0 w w' g) ∧ Aside0 (St w0 W w' g) := by
  have HS := Aside0.mk hS.self
  have HT := Aside0.mk hS
  clear hS
  go_enter Tryd.func179, Tryd.ntmps179
  go_wp2_with (first
    | (go_at_call 82; (with_reducible refine (nLit _ ?_ stA).mono ?_); rfl; clear HS; rintro e w1 ⟨r, p, rfl, hr0, hr1, hx, HS⟩)
    | (go_at_call 82; (with_reducible refine (nL _ (by decide) stA).mono ?_); clear HS; rintro e w1 ⟨r, rfl, hr0, hr1, HS, -⟩)
    | (go_at_call 79; (with_reducible refine (oneL _ (by decide) stA).mono ?_); clear HS; rintro e w1 ⟨r, rfl, HS, -⟩))
  all_goals
    go_ret
    exact ⟨_, rfl, ⟨HT.out.trans HS.out⟩, HS⟩
set_option maxHeartbeats 8000000 in
set_option maxRecDepth 100000 in
theorem partL {w0 w W : World} {g : Nat} (hS : St w0 w W g) :
    Calls Tryd.prog 165 #[.pointer (some ⟨g, 0, none⟩)] W fun e w' => ∃ p : Int, e = .returned (.int .i64 p) ∧ Aside0 (St w0 w w' g) ∧ Aside0 (St w0 W w' g) := by
  have HS := Aside0.mk hS.self
  have HT := Aside0.mk hS
  clear hS
  go_enter Tryd.func165, Tryd.ntmps165
  go_wp2_with (first
    | (go_at_call 82; (with_reducible refine (nLit _ ?_ stA).mono ?_); rfl; clear HS; rintro e w1 ⟨r, p, rfl, hr0, hr1, hx, HS⟩)
    | (go_at_call 82; (with_reducible refine (nL _ (by decide) stA).mono ?_); clear HS; rintro e w1 ⟨r, rfl, hr0, hr1, HS, -⟩)
    | (go_at_call 79; (with_reducible refine (oneL _ (by decide) stA).mono ?_); clear HS; rintro e w1 ⟨r, rfl, HS, -⟩)
    | (go_at_call 179; (with_reducible refine (pointL stA).mono ?_); clear HS; rintro e w1 ⟨r, rfl, HS, -⟩))
  all_goals
    go_ret
    exact ⟨_, rfl, ⟨HT.out.trans HS.out⟩, HS⟩
set_option maxHeartbeats 8000000 in
set_option maxRecDepth 100000 in
theorem normFormL {w0 w W : World} {g : Nat} (hS : St w0 w W g) :
    Calls Tryd.prog 77 #[.pointer (some ⟨g, 0, none⟩)] W fun e w' => ∃ p : Int, e = .returned (.int .i64 p) ∧ Aside0 (St w0 w w' g) ∧ Aside0 (St w0 W w' g) := by
  have HS := Aside0.mk hS.self
  have HT := Aside0.mk hS
  clear hS
  go_enter Tryd.func77, Tryd.ntmps77
  go_wp2_with (first
    | (go_at_call 82; (with_reducible refine (nLit _ ?_ stA).mono ?_); rfl; clear HS; rintro e w1 ⟨r, p, rfl, hr0, hr1, hx, HS⟩)
    | (go_at_call 82; (with_reducible refine (nL _ (by decide) stA).mono ?_); clear HS; rintro e w1 ⟨r, rfl, hr0, hr1, HS, -⟩)
    | (go_at_call 79; (with_reducible refine (oneL _ (by decide) stA).mono ?_); clear HS; rintro e w1 ⟨r, rfl, HS, -⟩))
  all_goals
    go_ret
    exact ⟨_, rfl, ⟨HT.out.trans HS.out⟩, HS⟩
theorem conv1 (W : World) (x : Int) : (convert 22 9 (.slice (some ⟨W.heap.size, 0, none⟩) 1 1)).run Tryd.prog (W.alloc (.cells #[.int .u8 x] 5)) = .ok (.string (strOfNums [x])) (W.alloc (.cells #[.int .u8 x] 5)) := by
  have h2 := World.ownsRow_lit (base := 0) (e := 5) (size := 1) W #[.int .u8 x] 1 (by omega) (by simp [maxLen]) (by simp)
  exact own_string Tryd.underlying22 Tryd.underlying5 Tryd.underlying9 h2
theorem conv2 (x : Int) : ∃ c : ByteArray, c.size = 1 ∧ ∀ V : World, (convert 22 9 (.slice (some ⟨V.heap.size, 0, none⟩) 1 1)).run Tryd.prog (V.alloc (.cells #[.int .u8 x] 5)) = .ok (.string c) (V.alloc (.cells #[.int .u8 x] 5)) :=
  ⟨strOfNums [x], by rw [strOfNums_size]; rfl, fun V => conv1 V x⟩
theorem nS {w0 w W : World} {g : Nat} (t : ByteArray) (ht : t.size ≤ 10000000) (hS : St w0 w W g) :
    Calls Tryd.prog 82 #[.pointer (some ⟨g, 0, none⟩), .int .i64 ((t.size : Int) + 1)] W fun e w' => ∃ r : Int, e = .returned (.int .i64 r) ∧ 0 ≤ r ∧ r ≤ (t.size : Int) ∧ ((r == (t.size : Int)) = true ∨ (r < (t.size : Int) ∧ (r == (t.size : Int)) = false)) ∧ Aside0 (St w0 w w' g) := by
  refine (nL _ (by omega) hS).mono ?_
  rintro e w' ⟨r, rfl, h0, h1, hs, -⟩
  refine ⟨r, rfl, h0, by omega, ?_, hs⟩
  by_cases c : r = (t.size : Int)
  · exact .inl (by simp [c])
  · exact .inr ⟨by omega, by simpa using c⟩
theorem wrapS (r : Int) (h : 0 ≤ r) (h2 : r ≤ 100000000) : IntKind.i64.wrap (r + 1) = r + 1 := by
  rw [i64_w]; unfold wrap64; omega
theorem cutSize (t : ByteArray) (i j : Nat) (h : j ≤ t.size) : (t.extract i j).size = j - i := by rw [ByteArray.size_extract]; omega
theorem nK {w0 w W : World} {g : Nat} (m : Int) (hm : 1 ≤ m) (hm2 : m ≤ 10000) (hS : St w0 w W g) :
    Calls Tryd.prog 82 #[.pointer (some ⟨g, 0, none⟩), .int .i64 m] W fun e w' => ∃ r : Int, e = .returned (.int .i64 r) ∧ 0 ≤ r ∧ r < m ∧ Aside0 (St w0 w w' g) := by
  refine (nL _ (by omega) hS).mono ?_
  rintro e w' ⟨r, rfl, h0, h1, hs, -⟩
  exact ⟨r, rfl, h0, by omega, hs⟩
set_option maxHeartbeats 8000000 in
set_option maxRecDepth 100000 in
theorem spoilL {w0 w W : World} {g : Nat} (t : ByteArray) (ht : t.size ≤ 10000000) (hS : St w0 w W g) :
    Calls Tryd.prog 166 #[.pointer (some ⟨g, 0, none⟩), .string t] W fun e w' => ∃ u : ByteArray, e = .returned (.string u) ∧ u.size ≤ t.size + 1 ∧ Aside0 (St w0 w w' g) ∧ Aside0 (St w0 W w' g) := by
  have HS := Aside0.mk hS.self
  have HT := Aside0.mk hS
  clear hS
  go_enter Tryd.func166, Tryd.ntmps166
  go_wp2_with (first
    | (go_at_call 82; (with_reducible refine (nS t ht stA).mono ?_); clear HS; rintro e w1 ⟨r, rfl, hr0, hr1, hr2, HS⟩; have d0 := eq_true hr0; have d1 := eq_true hr1; have HR := Aside0.mk (And.intro hr0 hr1); rcases hr2 with hr2 | ⟨hr3, hr2⟩; rotate_left; have d2 : (0 ≤ r + 1) = True := (eq_true (by omega)); have d3 : (r + 1 ≤ (t.size : Int)) = True := (eq_true (by omega)); have d4 := wrapS r hr0 (by omega); clear hr3 hr0 hr1; rotate_left; clear hr0 hr1)
    | (go_at_call 82; (with_reducible refine (nK 17 (by decide) (by decide) stA).mono ?_); clear HS; rintro e w2 ⟨q, rfl, hq0, hq1, HS⟩; replace hq0 := eq_true hq0; replace hq1 := eq_true hq1; have hx := bt_at (⟨#[32, 10, 48, 97, 45, 110, 44, 58, 93, 255, 40, 120, 34, 49, 128, 225, 59]⟩ : ByteArray) q; obtain ⟨c, hcs, kc⟩ := conv2 (bt (⟨#[32, 10, 48, 97, 45, 110, 44, 58, 93, 255, 40, 120, 34, 49, 128, 225, 59]⟩ : ByteArray) q); have b0 : (9223372036854775807 < r.toNat + c.size) = False := (eq_false (by have hr := HR.out; omega)); have b1 : (9223372036854775807 < r.toNat + c.size + (t.size - r.toNat)) = False := (eq_false (by have hr := HR.out; omega)); have b2 : (9223372036854775807 < r.toNat + (t.size - (r + 1).toNat)) = False := (eq_false (by have hr := HR.out; omega)); have b3 : (9223372036854775807 < r.toNat + c.size + (t.size - (r + 1).toNat)) = False := (eq_false (by have hr := HR.out; omega)); have HC := Aside0.mk hcs; clear hcs)
    | (go_at_call 79; (with_reducible refine (oneL _ (by decide) stA).mono ?_); clear HS; rintro e w1 ⟨b, rfl, HS, -⟩))
  all_goals go_quiet (fail)
  all_goals go_wp2
  all_goals
    have hr := HR.out
    have hc := HC.out
    go_ret
    refine ⟨_, rfl, ?_, ⟨HT.out.trans stA⟩, ⟨stA⟩⟩
    simp only [ByteArray.size_append, ByteArray.size_extract]
    omega
set_option maxHeartbeats 8000000 in
set_option maxRecDepth 100000 in
theorem partsTextL {w0 w W : World} {g : Nat} (hS : St w0 w W g) :
    Calls Tryd.prog 78 #[.pointer (some ⟨g, 0, none⟩)] W fun e w' => ∃ t : ByteArray, e = .returned (.string t) ∧ t.size ≤ 1000 ∧ Aside0 (St w0 w w' g) ∧ Aside0 (St w0 W w' g) := by
  have HS := Aside0.mk hS.self
  have HT := Aside0.mk hS
  obtain ⟨⟨l, a, m, z, ⟨A0, c0, hblk, _, _⟩, _, _, _, hz0, hz1⟩, _⟩ := hS
  have k3 := cellS134_3 (blk_alloc hblk (.cells #[] 2))
  clear hblk
  go_enter Tryd.func78, Tryd.ntmps78
  go_wp2_with (go_at_call 82; (with_reducible refine (nL _ (by omega) stA).mono ?_); rintro e w1 ⟨r, rfl, hr0, hr1, HS1, HK⟩; have HO := Aside0.mk (St.row (stA (w := W)) (lit0 _ W.heap.size (St.size (stA (w := W)))) (by decide) HK.out); clear HS HK; have HS := HS1; clear HS1; replace hr1 : r ≤ 40 := (by omega))
  clear k3
  go_loopw [3, 4] (fun v3 v4 wr => ∃ (xs : List Int) (n : Int), v4 = .int .i64 n ∧ 0 ≤ n ∧ n ≤ 40 ∧ (xs.length : Int) + n ≤ 40 ∧ Aside0 (Kd.R (Kd.int .i64) 2 wr W.heap.size (fun _ => True) v3 xs) ∧ Aside0 (St w0 W wr g)) (fun _ v4 _ => (intOf v4).toNat)
  case atStart => exact ⟨[], r, rfl, hr0, hr1, by simpa using hr1, HO, HS⟩
  case round =>
    clear HO HS
    obtain ⟨xs, n, rfl, hn0, hn1, hn2, HO, HS⟩ := hrel
    by_cases hn : 0 < n
    · go_wp2_with (first
        | (go_at_call 165; (with_reducible refine (partL stA).mono ?_); rintro e w2 ⟨p, rfl, HS1, HK⟩; have HO1 := Aside0.mk (St.row (stA (w := W)) HO.out (by decide) HK.out); clear HS HK HO; have HS := HS1; have HO := HO1; clear HS1 HO1)
        | (at_builtin; refine Kd.R_append (Kd.int .i64) W.heap.size rfl (.tmp 19) (.tmp 22) 28 2 (.int .i64 0) 8 rfl Tryd.underlying28 info2 rfl (by decide) (by omega) _ xs p [.int .i64 p] (fun _ => True) (fun _ => False) rfl rfl rfl (fun _ hk => hk.elim) (fun _ _ => trivial) (by (with_reducible repeat (first | apply Kd.R_alloc | apply Kd.R_drewN | apply Kd.R_drew)); exact HO.out) (Below.refl _ _) (St.size (stA (w := W))) (by omega) ?_; intro v3 w3 ho hb hg hat; have HS1 := Aside0.mk (St.grown (stA (w := W)) (by (with_reducible repeat (first | apply Kd.R_alloc | apply Kd.R_drewN | apply Kd.R_drew)); exact HO.out) (by decide) hg hb); have HO1 := Aside0.mk ho; clear HS HO ho hb hg hat; have HS := HS1; have HO := HO1; clear HS1 HO1))
      go_roundw
      case rel => exact ⟨_, n - 1, by go_num, by omega, by omega, by simp only [List.length_append, List.length_cons, List.length_nil]; omega, HO, HS⟩
      case measure => simp [intOf]; omega
    · have hxl : xs.length ≤ 40 := by omega
      obtain ⟨A1, c1, rfl⟩ := Kd.R_slice HO.out
      go_wp2_with (first
        | (go_at_call 95; (with_reducible refine (textC xs _ (by omega) (by repeat (first | exact (Kd.R_reads' HO.out).2.2 | (with_reducible refine Kd.C_alloc ?_ _) | (with_reducible refine Kd.C_drewN ?_ _))) (Kd.R_reads' HO.out).2.1).mono ?_); rintro e w2 ⟨t, rfl, ht, hb⟩; have HS1 := Aside0.mk (St.below (stA (w := W)) hb); clear HS hb; have HS := HS1; clear HS1)
        | (go_at_call 79; (with_reducible refine (oneL _ (by decide) stA).mono ?_); clear HS; rintro e w1 ⟨r, rfl, HS, -⟩)
        | (go_at_call 166; (with_reducible refine (spoilL _ (by omega) stA).mono ?_); clear HS; rintro e w1 ⟨u, rfl, hu, HS, -⟩))
      all_goals
        go_ret
        exact ⟨_, rfl, by omega, ⟨HT.out.trans HS.out⟩, HS⟩
theorem NT_size (f : Int) (t : ByteArray) : (YtiabgmddnddeiaaDoorNst.NT f t).size ≤ 65536 := by
  unfold YtiabgmddnddeiaaDoorNst.NT
  split
  · decide
  · exact YtiabgmddnddeiaaDoorNst.sh_size _
theorem normC (f : Int) (t : ByteArray) (W : World) (ht : t.size ≤ 100000000) :
    Calls Tryd.prog 15 #[.int .i64 f, .string t] W fun e w' => ∃ u : ByteArray, e = .returned (.string u) ∧ u.size ≤ 65536 ∧ Below W.heap.size W w' := by
  refine (W_spec_Normalize.calls f t _ W (if_pos ht)).mono ?_
  rintro e w' ⟨rfl, hb⟩
  exact ⟨_, rfl, NT_size f t, hb⟩
set_option maxHeartbeats 8000000 in
set_option maxRecDepth 100000 in
theorem normTextL {w0 w W : World} {g : Nat} (f : Int) (hS : St w0 w W g) :
    Calls Tryd.prog 140 #[.pointer (some ⟨g, 0, none⟩), .int .i64 f] W fun e w' => ∃ t : ByteArray, e = .returned (.string t) ∧ t.size ≤ 65536 ∧ Aside0 (St w0 w w' g) ∧ Aside0 (St w0 W w' g) := by
  have HS := Aside0.mk hS.self
  have HT := Aside0.mk hS
  clear hS
  go_enter Tryd.func140, Tryd.ntmps140
  go_wp2_with (first
    | (go_at_call 78; (with_reducible refine (partsTextL stA).mono ?_); clear HS; rintro e w1 ⟨t, rfl, ht, HS, -⟩)
    | (go_at_call 79; (with_reducible refine (oneL _ (by decide) stA).mono ?_); clear HS; rintro e w1 ⟨r, rfl, HS, -⟩)
    | (go_at_call 15; (with_reducible refine (normC f t _ (by omega)).mono ?_); rintro e w2 ⟨u, rfl, hu, hb⟩; have HS1 := Aside0.mk (St.below (stA (w := W)) hb); clear HS hb; have HS := HS1; clear HS1))
  all_goals
    go_ret
    exact ⟨_, rfl, by omega, ⟨HT.out.trans HS.out⟩, HS⟩
set_option maxHeartbeats 8000000 in
set_option maxRecDepth 100000 in
theorem spec_DrawQuickCheck.loose (A0 : Option Addr) (c0 : Nat) (l0 : List Int) (w : World) (hr0 : Kd.C (Kd.int .u8) w A0 l0.length l0) (hc0 : l0.length ≤ c0) (hl : l0.length ≤ 1048576) :
    Calls Tryd.prog 58 #[.slice A0 l0.length c0] w fun e w' => ∃ (f : Int) (t : ByteArray), t.size ≤ 100000 ∧ e = .returned (.tuple #[.int .i64 f, .string t]) ∧ Below w.heap.size w w' := by
  have HR := Aside0.mk hr0
  clear hr0
  go_enter Tryd.func58, Tryd.ntmps58
  go_wp2_with (first
    | (go_at_call 76; (with_reducible refine (srcL A0 c0 l0 (Below.refl w.heap.size w) HR.out hc0 hl).mono ?_); rintro e w1 ⟨g, rfl, HS⟩)
    | (go_at_call 77; (with_reducible refine (normFormL stA).mono ?_); clear HS; rintro e w2 ⟨f, rfl, HS, -⟩)
    | (go_at_call 140; (with_reducible refine (normTextL f stA).mono ?_); clear HS; rintro e w3 ⟨t, rfl, ht, HS, -⟩))
  go_ret2
  exact ⟨f, t, by omega, rfl, HS.out.2.1⟩

/-! ### slices_Equal_int64_int64: function 142 -/
def slices_Equal_int64_int64.l0 : Nat → List Int → List Int → Int → Int → Option (Bool)
 | 0, _, _, _, _ => none
 | k + 1, x0, x1, x12, x13 => if x13 < x12 then (if 0 ≤ x13 then (if x13 < (x0.length : Int) then (if x13 < (x1.length : Int) then (if (rd x0 x13) = (rd x1 x13) then (slices_Equal_int64_int64.l0 k x0 x1 x12 (wrap64 (x13 + 1))) else (some false)) else (none)) else (none)) else (none)) else (some true)
def slices_Equal_int64_int64.f (k : Nat) (l0 : List Int) (l1 : List Int) : Option (Bool) := if (l0.length : Int) = (l1.length : Int) then (slices_Equal_int64_int64.l0 k l0 l1 (l0.length : Int) 0) else (some false)
theorem slices_Equal_int64_int64.mono_l : ∀ k, (∀ y0 y1 y2 y3, LeO (slices_Equal_int64_int64.l0 k y0 y1 y2 y3) (slices_Equal_int64_int64.l0 (k + 1) y0 y1 y2 y3))
 | 0 => fun _ _ _ _ r h => by simp [slices_Equal_int64_int64.l0] at h
 | k + 1 => by
  have ih0 := slices_Equal_int64_int64.mono_l k; intro y0 y1 y2 y3
  unfold slices_Equal_int64_int64.l0
  repeat' first
  | (with_reducible exact ih0 _ _ _ _)
  | (with_reducible exact LeO.refl _)
  | (with_reducible exact LeO.none _)
  | (with_reducible refine LeO.ite ?_ ?_)
  | (with_reducible refine LeO.bind ?_ (fun _ => ?_))
  | exact ih0 _ _ _ _
  | exact LeO.none _
  | refine LeO.ite ?_ ?_
  | refine LeO.bind ?_ (fun _ => ?_)
theorem slices_Equal_int64_int64.mono : ∀ a0 a1 k, LeO (slices_Equal_int64_int64.f k a0 a1) (slices_Equal_int64_int64.f (k + 1) a0 a1) := by
 intro a0 a1 k
 have ih0 := slices_Equal_int64_int64.mono_l k
 unfold slices_Equal_int64_int64.f
 repeat' first
   | (with_reducible exact ih0 _ _ _ _)
   | (with_reducible exact LeO.refl _)
   | (with_reducible exact LeO.none _)
   | (with_reducible refine LeO.ite ?_ ?_)
   | (with_reducible refine LeO.bind ?_ (fun _ => ?_))
   | exact ih0 _ _ _ _
   | exact LeO.none _
   | refine LeO.ite ?_ ?_
   | refine LeO.bind ?_ (fun _ => ?_)
set_option maxHeartbeats 8000000 in
set_option maxRecDepth 100000 in
theorem slices_Equal_int64_int64.calls (k : Nat) (A0 : Option Addr) (c0 : Nat) (l0 : List Int) (A1 : Option Addr) (c1 : Nat) (l1 : List Int) (r : Bool) (w : World) (hr0 : Kd.C (Kd.int .i64) w A0 l0.length l0) (hc0 : l0.length ≤ c0) (hr1 : Kd.C (Kd.int .i64) w A1 l1.length l1) (hc1 : l1.length ≤ c1) (h : slices_Equal_int64_int64.f k l0 l1 = some r) :
  Calls Tryd.prog 142 #[.slice A0 l0.length c0, .slice A1 l1.length c1] w fun e w' => e = .returned (.bool r) ∧ Drawn0 w w' := by
 have HR0 := Aside0.mk hr0
 have HC0 := Aside0.mk hc0
 clear hr0 hc0
 have HR1 := Aside0.mk hr1
 have HC1 := Aside0.mk hc1
 clear hr1 hc1
 have H : (if (l0.length : Int) = (l1.length : Int) then (slices_Equal_int64_int64.l0 k l0 l1 (l0.length : Int) 0) else (some false)) = some r := h
 clear h
 by_cases c3 : (l0.length : Int) = (l1.length : Int)
 ·rw [if_pos c3] at H
  have c3b0 : ((l0.length : Int) == (l1.length : Int)) = true := beq_iff_eq.mpr c3; have c3b1 : ((l0.length : Int) != (l1.length : Int)) = false := bne_eq_false_iff_eq.mpr c3
  have c3b2 : (l0.length == l1.length) = true := by first | simpa using c3 | (simp at c3 ⊢; omega)
  clear c3; have H' := Aside0.mk H; clear H
  go_enter Tryd.func142, Tryd.ntmps142
  go_wp2
  repeat (go_quiet (fail); try go_wp2)
  go_loopg [13] k (fun kq v13 w' => ∃ (x13_1 : Int), v13 = .int .i64 x13_1 ∧ Aside0 (slices_Equal_int64_int64.l0 kq l0 l1 (l0.length : Int) x13_1 = some r) ∧ Aside0 (kq ≤ k) ∧ Drawn0 w w')
  case atStart => exact ⟨(0), (by first | rfl | (simp; done) | (simp [*]; done)), H', ⟨Nat.le_refl _⟩, by repeat (first | exact Drawn0.refl _ | apply Drawn0.step)⟩
  case round =>
   clear H'
   try clear c1; try clear p2; try clear c3; try clear c3b0; try clear c3b1; try clear c3b2
   obtain ⟨x13_1, rfl, HA, HK1, ⟨m1, rfl⟩⟩ := hrel
   cases gk with
   | zero => exact absurd HA.out (by simp [slices_Equal_int64_int64.l0])
   | succ k1 =>
    have H := HA.out; clear HA; simp only [slices_Equal_int64_int64.l0] at H
    by_cases c4 : x13_1 < (l0.length : Int)
    ·rw [if_pos c4] at H
     have c4b0 : decide (x13_1 < (l0.length : Int)) = true := decide_eq_true c4; clear c4
     by_cases c5 : 0 ≤ x13_1
     ·rw [if_pos c5] at H
      have c5b0 : decide (0 ≤ x13_1) = true := decide_eq_true c5; clear c5
      by_cases c6 : x13_1 < (l0.length : Int)
      ·rw [if_pos c6] at H
       have c6b0 : decide (x13_1 < (l0.length : Int)) = true := decide_eq_true c6; clear c6
       by_cases c7 : x13_1 < (l1.length : Int)
       ·rw [if_pos c7] at H
        have c7b0 : decide (x13_1 < (l1.length : Int)) = true := decide_eq_true c7; clear c7
        by_cases c8 : (rd l0 x13_1) = (rd l1 x13_1)
        ·rw [if_pos c8] at H
         have c8b0 : ((rd l0 x13_1) == (rd l1 x13_1)) = true := beq_iff_eq.mpr c8; have c8b1 : ((rd l0 x13_1) != (rd l1 x13_1)) = false := bne_eq_false_iff_eq.mpr c8; clear c8; have H' := Aside0.mk H; clear H
         have p323 : 0 ≤ (x13_1 : Int) := of_decide_eq_true (by first | (with_reducible assumption) | assumption)
         have q323 : x13_1 < (l0.length : Int) := of_decide_eq_true (by first | (with_reducible assumption) | assumption)
         obtain ⟨ad323, e323, hx323_0⟩ := Kd.at_int HR0.out x13_1 p323 q323; cases e323; replace p323 := eq_true p323; replace q323 := eq_true q323
         have p324 : 0 ≤ (x13_1 : Int) := of_decide_eq_true (by first | (with_reducible assumption) | assumption)
         have q324 : x13_1 < (l1.length : Int) := of_decide_eq_true (by first | (with_reducible assumption) | assumption)
         obtain ⟨ad324, e324, hx324_0⟩ := Kd.at_int HR1.out x13_1 p324 q324; cases e324; replace p324 := eq_true p324; replace q324 := eq_true q324
         go_wp2
         repeat (go_quiet (fail); try go_wp2)
         go_roundg k1
         case measure => have := HK1.out; omega
         case rel => exact ⟨(wrap64 (x13_1 + 1)), (by first | rfl | (simp; done) | (simp [*]; done)), H', ⟨by have := HK1.out; omega⟩, by repeat (first | exact Drawn0.refl _ | apply Drawn0.step)⟩
        rw [if_neg c8] at H; have c8b0 : ((rd l0 x13_1) == (rd l1 x13_1)) = false := beq_eq_false_iff_ne.mpr c8; have c8b1 : ((rd l0 x13_1) != (rd l1 x13_1)) = true := bne_iff_ne.mpr c8; obtain rfl := Option.some.inj H
        have p323 : 0 ≤ (x13_1 : Int) := of_decide_eq_true (by first | (with_reducible assumption) | assumption)
        have q323 : x13_1 < (l0.length : Int) := of_decide_eq_true (by first | (with_reducible assumption) | assumption)
        obtain ⟨ad323, e323, hx323_0⟩ := Kd.at_int HR0.out x13_1 p323 q323; cases e323; replace p323 := eq_true p323; replace q323 := eq_true q323
        have p324 : 0 ≤ (x13_1 : Int) := of_decide_eq_true (by first | (with_reducible assumption) | assumption)
        have q324 : x13_1 < (l1.length : Int) := of_decide_eq_true (by first | (with_reducible assumption) | assumption)
        obtain ⟨ad324, e324, hx324_0⟩ := Kd.at_int HR1.out x13_1 p324 q324; cases e324; replace p324 := eq_true p324; replace q324 := eq_true q324
        go_wp2
        repeat (go_quiet (fail); try go_wp2)
        go_ret
        exact ⟨by first | rfl | (simp; done) | (simp [*]; done), by repeat (first | exact Drawn0.refl _ | apply Drawn0.step)⟩
       rw [if_neg c7] at H
       exact absurd H (by simp)
      rw [if_neg c6] at H
      exact absurd H (by simp)
     rw [if_neg c5] at H
     exact absurd H (by simp)
    rw [if_neg c4] at H; have c4b0 : decide (x13_1 < (l0.length : Int)) = false := decide_eq_false c4; clear c4; obtain rfl := Option.some.inj H
    go_wp2
    repeat (go_quiet (fail); try go_wp2)
    go_ret
    exact ⟨by first | rfl | (simp; done) | (simp [*]; done), by repeat (first | exact Drawn0.refl _ | apply Drawn0.step)⟩
 rw [if_neg c3] at H
 have c3b0 : ((l0.length : Int) == (l1.length : Int)) = false := beq_eq_false_iff_ne.mpr c3
 have c3b1 : ((l0.length : Int) != (l1.length : Int)) = true := bne_iff_ne.mpr c3
 have c3b2 : (l0.length == l1.length) = false := by first | simpa using c3 | (simp at c3 ⊢; omega)
 obtain rfl := Option.some.inj H
 go_enter Tryd.func142, Tryd.ntmps142
 go_wp2
 repeat (go_quiet (fail); try go_wp2)
 go_ret
 exact ⟨by first | rfl | (simp; done) | (simp [*]; done), by repeat (first | exact Drawn0.refl _ | apply Drawn0.step)⟩

def W_slices_Equal_int64_int64.f (l0 : List Int) (l1 : List Int) : Option Bool := if l0.length ≤ 1099511627776 then some (decide (l0 = l1)) else none
theorem slices_Equal_int64_int64.run (a b : List Int) (hl : a.length ≤ 1099511627776) (hab : a.length = b.length) (d : Nat) : ∀ (k i : Nat), i ≤ a.length → a.length - i = d → d < k → a.take i = b.take i →
    slices_Equal_int64_int64.l0 k a b (a.length : Int) (i : Int) = some (decide (a = b)) := by
  induction d with
  | zero =>
    intro k i h1 h2 h3 h4
    obtain ⟨k, rfl⟩ : ∃ m, k = m + 1 := ⟨k - 1, by omega⟩
    simp only [slices_Equal_int64_int64.l0]
    rw [if_neg (by omega)]
    rw [List.take_of_length_le (by omega), List.take_of_length_le (by omega)] at h4
    simp [h4]
  | succ d ih =>
    intro k i h1 h2 h3 h4
    obtain ⟨k, rfl⟩ : ∃ m, k = m + 1 := ⟨k - 1, by omega⟩
    have hlt : i < a.length := by omega
    have hlb : i < b.length := by omega
    simp only [slices_Equal_int64_int64.l0]
    rw [if_pos (by omega), if_pos (by omega), if_pos (by omega), if_pos (by omega)]
    have hw : wrap64 ((i : Int) + 1) = ((i + 1 : Nat) : Int) := by unfold wrap64; omega
    have ha : rd a (i : Int) = a[i] := by simp [rd, List.getD, hlt]
    have hb : rd b (i : Int) = b[i] := by simp [rd, List.getD, hlb]
    rw [ha, hb]
    by_cases e : a[i] = b[i]
    · rw [if_pos e, hw]
      exact ih k (i + 1) (by omega) (by omega) (by omega) (by rw [List.take_succ_eq_append_getElem hlt, List.take_succ_eq_append_getElem hlb, h4, e])
    · rw [if_neg e]
      have : a ≠ b := by intro h; subst h; exact e rfl
      simp [this]
theorem W_slices_Equal_int64_int64.to {l0 l1 : List Int} {r : Bool} (h : W_slices_Equal_int64_int64.f l0 l1 = some r) : ∃ k, slices_Equal_int64_int64.f k l0 l1 = some r := by
  unfold W_slices_Equal_int64_int64.f at h
  split at h
  · rename_i hl
    refine ⟨l0.length + 1, ?_⟩
    rw [← h]
    unfold slices_Equal_int64_int64.f
    by_cases hab : l0.length = l1.length
    · rw [if_pos (by omega)]
      exact slices_Equal_int64_int64.run l0 l1 hl hab l0.length (l0.length + 1) 0 (by omega) (by omega) (by omega) rfl
    · rw [if_neg (by omega)]
      have : l0 ≠ l1 := by intro h; subst h; exact hab rfl
      simp [this]
  · cases h
theorem W_slices_Equal_int64_int64.calls (A0 : Option Addr) (c0 : Nat) (l0 : List Int) (A1 : Option Addr) (c1 : Nat) (l1 : List Int) (r : Bool) (w : World) (hr0 : Kd.C (Kd.int .i64) w A0 l0.length l0) (hc0 : l0.length ≤ c0) (hr1 : Kd.C (Kd.int .i64) w A1 l1.length l1) (hc1 : l1.length ≤ c1) (h : W_slices_Equal_int64_int64.f l0 l1 = some r) :
    Calls Tryd.prog 142 #[.slice A0 l0.length c0, .slice A1 l1.length c1] w fun e w' => e = .returned (.bool r) ∧ Drawn0 w w' := by
  obtain ⟨k, hk⟩ := W_slices_Equal_int64_int64.to h
  exact slices_Equal_int64_int64.calls k A0 c0 l0 A1 c1 l1 r w hr0 hc0 hr1 hc1 hk

end Go.Proofs.YtiabgmddnddeiaaDoor.QFnQuick
