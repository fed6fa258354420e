/- The law FnDetected: at every input the call answers true (this text: contracts on its way, by a program of this session's; no condition of ours). -/
import Derived.Test.YtphjfenhnhfakaaDoorQFnDetectedx0
import Derived.Test.YtphjfenhnhfakaaDoorQFnDetectedx1
namespace Go.Proofs.YtphjfenhnhfakaaDoor.QFnDetected
open Go.RowKit Go.Proofs.YtphjfenhnhfakaaDoorW.PrintWords Go.Proofs.YtphjfenhnhfakaaDoorW.PrintLast Go.Proofs.YtphjfenhnhfakaaDoorW.PrintMore
attribute [local go_sem] max2_int min2_int max_two min_two max_three min_three max_four min_four   -- for this text's walks alone
set_option linter.unusedVariables false
set_option linter.unusedSimpArgs false

/-! ### spec_l01Src_n: function 67 (by hand) -/
theorem relet_ {Goal : World → Prop} {W : World} (P : World → Prop) (hP : P W) (h : ∀ w2, P w2 → Goal w2) : Goal W := h W hP
def spec_l01Src_n.m1 (m : Int) : Int := Go.bits .xor .u64 m (IntKind.u64.wrap (m * 8192))
def spec_l01Src_n.m2 (m : Int) : Int := Go.bits .xor .u64 m (m / 128)
def spec_l01Src_n.m3 (m : Int) : Int := Go.bits .xor .u64 m (IntKind.u64.wrap (m * 131072))
def spec_l01Src_n.mix (m : Int) : Int := spec_l01Src_n.m3 (spec_l01Src_n.m2 (spec_l01Src_n.m1 m))
def spec_l01Src_n.out (v m a : Int) : Int := wrap64 ((IntKind.u64.wrap (v + m / 1048576)).tmod a)
def spec_l01Src_n.out0 (m a : Int) : Int := wrap64 ((IntKind.u64.wrap (m / 1048576)).tmod a)
def spec_l01Src_n.f (s0_0 : List Int) (s0_1 s0_2 s0_3 a1 : Int) : Option (Int × Int × Int × Int) :=
  if a1 ≤ 1 then some (0, s0_1, s0_2, s0_3)
  else if a1 ≤ 9223372036854775807 then
    (if s0_1 < (s0_0.length : Int) then (if 0 ≤ s0_1 then some (spec_l01Src_n.out (IntKind.u64.wrap (rd s0_0 s0_1)) (spec_l01Src_n.mix s0_2) a1, wrap64 (s0_1 + 1), spec_l01Src_n.mix s0_2, s0_3) else none)
     else some (spec_l01Src_n.out0 (spec_l01Src_n.mix s0_2) a1, s0_1, spec_l01Src_n.mix s0_2, s0_3))
  else none
set_option maxHeartbeats 2000000 in
set_option maxRecDepth 100000 in
theorem spec_l01Src_n.calls (g : Nat) (s0_0 : List Int) (s0_1 : Int) (s0_2 : Int) (s0_3 : Int) (a1 : Int) (r1 : Int) (r2 : Int) (r3 : Int) (r4 : Int) (w0 w : World) (hI : IsS84 w0 w g s0_0 s0_1 s0_2 s0_3) (hB : Below w0.heap.size w0 w) (h : spec_l01Src_n.f s0_0 s0_1 s0_2 s0_3 a1 = some (r1, r2, r3, r4)) :
    Calls Tryd.prog 67 #[.pointer (some ⟨g, 0, none⟩), .int .i64 a1] w fun e w' => e = .returned (.int .i64 r1) ∧ IsS84 w0 w' g s0_0 r2 r3 r4 ∧ Below w0.heap.size w0 w' ∧ KeepBut w w' g none := by
  have HI := hI
  obtain ⟨A0, c0, hblk, hge, hC⟩ := hI
  have k0 := cellS84_0 hblk
  have k1 := cellS84_1 hblk
  have k2 := cellS84_2 hblk
  have z1 := blk_frozen hblk 1
  have z2 := blk_frozen hblk 2
  have HK := KeepBut.refl w g none
  by_cases h1 : a1 ≤ 1
  · unfold spec_l01Src_n.f at h
    rw [if_pos h1] at h
    simp only [Option.some.injEq, Prod.mk.injEq] at h
    obtain ⟨rfl, rfl, rfl, rfl⟩ := h
    have HI := Aside0.mk HI
    have HB := Aside0.mk hB
    have HK := Aside0.mk HK
    clear hblk hge hC hB
    go_enter Tryd.func67, Tryd.ntmps67
    go_wp2
    go_ret
    exact ⟨rfl, HI.out, HB.out, HK.out⟩
  · by_cases h2 : a1 ≤ 9223372036854775807
    · by_cases h4 : s0_1 < (s0_0.length : Int)
      · by_cases h3 : 0 ≤ s0_1
        · skip
          have ho : Aside0 (spec_l01Src_n.out (IntKind.u64.wrap (rd s0_0 s0_1)) (spec_l01Src_n.m3 (spec_l01Src_n.m2 (spec_l01Src_n.m1 s0_2))) a1 = r1 ∧ wrap64 (s0_1 + 1) = r2 ∧ spec_l01Src_n.m3 (spec_l01Src_n.m2 (spec_l01Src_n.m1 s0_2)) = r3 ∧ s0_3 = r4) := by
            unfold spec_l01Src_n.f at h
            rw [if_neg h1, if_pos h2, if_pos h4, if_pos h3] at h
            simp only [Option.some.injEq, Prod.mk.injEq] at h
            exact ⟨h⟩
          clear h
          obtain ⟨ad, e119, hx0⟩ := Kd.at_int hC s0_1 h3 h4
          cases e119
          replace hx0 := (hB.cell (World.block_lt_of_cell? w0 _ hx0)).trans hx0
          have HI := Aside0.mk HI
          have HB := Aside0.mk hB
          have HK := Aside0.mk HK
          clear hblk hge hC hB
          have h1 : 1 < a1 := by omega
          go_enter Tryd.func67, Tryd.ntmps67
          go_wp2
          go_quiet (fail)
          go_wp2
          go_quiet (fail)
          go_wp2
          go_region
          go_wp2
          refine relet_ (Goal := fun w' => Code.wp _ _ _ _ w') (fun w2 => IsS84 w0 w2 g s0_0 (wrap64 (s0_1 + 1)) (Go.bits .xor .u64 s0_2 (IntKind.u64.wrap (s0_2 * 8192))) s0_3 ∧ Below w0.heap.size w0 w2 ∧ KeepBut w w2 g none) ⟨by repeat (first | (with_reducible first | exact HI.out | apply IsS84.alloc | apply IsS84.drewN | apply IsS84.drew | apply IsS84.set_1 | apply IsS84.set_2 | apply IsS84.set_3) | exact HI.out), by repeat (first | (with_reducible first | exact HB.out | apply below_alloc | apply pw_below_drewN | apply below_drew1 | refine below_set ?_ (IsS84.ge HI.out)) | exact HB.out), by repeat (first | (with_reducible first | exact HK.out | apply KeepBut.set_ | apply keep_drewN | apply keep_drew | apply keep_alloc) | exact HK.out)⟩ ?_
          clear k0 k1 k2 z1 z2 HI HB HK hx0
          rintro w2 ⟨hI, hB, hK⟩
          change IsS84 w0 w2 g s0_0 (wrap64 (s0_1 + 1)) (spec_l01Src_n.m1 s0_2) s0_3 at hI
          obtain ⟨x1, hx1⟩ : ∃ m, spec_l01Src_n.m1 s0_2 = m := ⟨_, rfl⟩
          rw [hx1] at hI ho
          clear hx1
          have HI := Aside0.mk hI
          have HB := Aside0.mk hB
          have HK := Aside0.mk hK
          obtain ⟨A0, c0, hblk, hge, hC⟩ := hI
          have k0 := cellS84_0 hblk
          have k1 := cellS84_1 hblk
          have k2 := cellS84_2 hblk
          have z1 := blk_frozen hblk 1
          have z2 := blk_frozen hblk 2
          clear hblk hge hC hB hK
          go_region
          go_wp2
          refine relet_ (Goal := fun w' => Code.wp _ _ _ _ w') (fun w2 => IsS84 w0 w2 g s0_0 (wrap64 (s0_1 + 1)) (Go.bits .xor .u64 x1 (x1 / 128)) s0_3 ∧ Below w0.heap.size w0 w2 ∧ KeepBut w w2 g none) ⟨by repeat (first | (with_reducible first | exact HI.out | apply IsS84.alloc | apply IsS84.drewN | apply IsS84.drew | apply IsS84.set_1 | apply IsS84.set_2 | apply IsS84.set_3) | exact HI.out), by repeat (first | (with_reducible first | exact HB.out | apply below_alloc | apply pw_below_drewN | apply below_drew1 | refine below_set ?_ (IsS84.ge HI.out)) | exact HB.out), by repeat (first | (with_reducible first | exact HK.out | apply KeepBut.set_ | apply keep_drewN | apply keep_drew | apply keep_alloc) | exact HK.out)⟩ ?_
          clear k0 k1 k2 z1 z2 HI HB HK
          rintro w2 ⟨hI, hB, hK⟩
          change IsS84 w0 w2 g s0_0 (wrap64 (s0_1 + 1)) (spec_l01Src_n.m2 x1) s0_3 at hI
          obtain ⟨x2, hx2⟩ : ∃ m, spec_l01Src_n.m2 x1 = m := ⟨_, rfl⟩
          rw [hx2] at hI ho
          clear hx2
          have HI := Aside0.mk hI
          have HB := Aside0.mk hB
          have HK := Aside0.mk hK
          obtain ⟨A0, c0, hblk, hge, hC⟩ := hI
          have k0 := cellS84_0 hblk
          have k1 := cellS84_1 hblk
          have k2 := cellS84_2 hblk
          have z1 := blk_frozen hblk 1
          have z2 := blk_frozen hblk 2
          clear hblk hge hC hB hK
          go_region
          go_wp2
          go_ret
          unfold spec_l01Src_n.m3 spec_l01Src_n.out at ho
          obtain ⟨e1, e2, e3, e4⟩ := ho.out
          subst e1 e2 e3 e4
          exact ⟨rfl, by repeat (first | (with_reducible first | exact HI.out | apply IsS84.alloc | apply IsS84.drewN | apply IsS84.drew | apply IsS84.set_1 | apply IsS84.set_2 | apply IsS84.set_3) | exact HI.out), by repeat (first | (with_reducible first | exact HB.out | apply below_alloc | apply pw_below_drewN | apply below_drew1 | refine below_set ?_ (IsS84.ge HI.out)) | exact HB.out), by repeat (first | (with_reducible first | exact HK.out | apply KeepBut.set_ | apply keep_drewN | apply keep_drew | apply keep_alloc) | exact HK.out)⟩
        · unfold spec_l01Src_n.f at h
          rw [if_neg h1, if_pos h2, if_pos h4, if_neg h3] at h
          cases h
      · skip
        have ho : Aside0 (spec_l01Src_n.out0 (spec_l01Src_n.m3 (spec_l01Src_n.m2 (spec_l01Src_n.m1 s0_2))) a1 = r1 ∧ s0_1 = r2 ∧ spec_l01Src_n.m3 (spec_l01Src_n.m2 (spec_l01Src_n.m1 s0_2)) = r3 ∧ s0_3 = r4) := by
          unfold spec_l01Src_n.f at h
          rw [if_neg h1, if_pos h2, if_neg h4] at h
          simp only [Option.some.injEq, Prod.mk.injEq] at h
          exact ⟨h⟩
        clear h
        have HI := Aside0.mk HI
        have HB := Aside0.mk hB
        have HK := Aside0.mk HK
        clear hblk hge hC hB
        have h1 : 1 < a1 := by omega
        have h4 : (s0_0.length : Int) ≤ s0_1 := by omega
        go_enter Tryd.func67, Tryd.ntmps67
        go_wp2
        go_quiet (fail)
        go_wp2
        go_region
        go_wp2
        refine relet_ (Goal := fun w' => Code.wp _ _ _ _ w') (fun w2 => IsS84 w0 w2 g s0_0 (s0_1) (Go.bits .xor .u64 s0_2 (IntKind.u64.wrap (s0_2 * 8192))) s0_3 ∧ Below w0.heap.size w0 w2 ∧ KeepBut w w2 g none) ⟨by repeat (first | (with_reducible first | exact HI.out | apply IsS84.alloc | apply IsS84.drewN | apply IsS84.drew | apply IsS84.set_1 | apply IsS84.set_2 | apply IsS84.set_3) | exact HI.out), by repeat (first | (with_reducible first | exact HB.out | apply below_alloc | apply pw_below_drewN | apply below_drew1 | refine below_set ?_ (IsS84.ge HI.out)) | exact HB.out), by repeat (first | (with_reducible first | exact HK.out | apply KeepBut.set_ | apply keep_drewN | apply keep_drew | apply keep_alloc) | exact HK.out)⟩ ?_
        clear k0 k1 k2 z1 z2 HI HB HK
        rintro w2 ⟨hI, hB, hK⟩
        change IsS84 w0 w2 g s0_0 (s0_1) (spec_l01Src_n.m1 s0_2) s0_3 at hI
        obtain ⟨x1, hx1⟩ : ∃ m, spec_l01Src_n.m1 s0_2 = m := ⟨_, rfl⟩
        rw [hx1] at hI ho
        clear hx1
        have HI := Aside0.mk hI
        have HB := Aside0.mk hB
        have HK := Aside0.mk hK
        obtain ⟨A0, c0, hblk, hge, hC⟩ := hI
        have k0 := cellS84_0 hblk
        have k1 := cellS84_1 hblk
        have k2 := cellS84_2 hblk
        have z1 := blk_frozen hblk 1
        have z2 := blk_frozen hblk 2
        clear hblk hge hC hB hK
        go_region
        go_wp2
        refine relet_ (Goal := fun w' => Code.wp _ _ _ _ w') (fun w2 => IsS84 w0 w2 g s0_0 (s0_1) (Go.bits .xor .u64 x1 (x1 / 128)) s0_3 ∧ Below w0.heap.size w0 w2 ∧ KeepBut w w2 g none) ⟨by repeat (first | (with_reducible first | exact HI.out | apply IsS84.alloc | apply IsS84.drewN | apply IsS84.drew | apply IsS84.set_1 | apply IsS84.set_2 | apply IsS84.set_3) | exact HI.out), by repeat (first | (with_reducible first | exact HB.out | apply below_alloc | apply pw_below_drewN | apply below_drew1 | refine below_set ?_ (IsS84.ge HI.out)) | exact HB.out), by repeat (first | (with_reducible first | exact HK.out | apply KeepBut.set_ | apply keep_drewN | apply keep_drew | apply keep_alloc) | exact HK.out)⟩ ?_
        clear k0 k1 k2 z1 z2 HI HB HK
        rintro w2 ⟨hI, hB, hK⟩
        change IsS84 w0 w2 g s0_0 (s0_1) (spec_l01Src_n.m2 x1) s0_3 at hI
        obtain ⟨x2, hx2⟩ : ∃ m, spec_l01Src_n.m2 x1 = m := ⟨_, rfl⟩
        rw [hx2] at hI ho
        clear hx2
        have HI := Aside0.mk hI
        have HB := Aside0.mk hB
        have HK := Aside0.mk hK
        obtain ⟨A0, c0, hblk, hge, hC⟩ := hI
        have k0 := cellS84_0 hblk
        have k1 := cellS84_1 hblk
        have k2 := cellS84_2 hblk
        have z1 := blk_frozen hblk 1
        have z2 := blk_frozen hblk 2
        clear hblk hge hC hB hK
        go_region
        go_wp2
        go_ret
        unfold spec_l01Src_n.m3 spec_l01Src_n.out0 at ho
        obtain ⟨e1, e2, e3, e4⟩ := ho.out
        subst e1 e2 e3 e4
        exact ⟨rfl, by repeat (first | (with_reducible first | exact HI.out | apply IsS84.alloc | apply IsS84.drewN | apply IsS84.drew | apply IsS84.set_1 | apply IsS84.set_2 | apply IsS84.set_3) | exact HI.out), by repeat (first | (with_reducible first | exact HB.out | apply below_alloc | apply pw_below_drewN | apply below_drew1 | refine below_set ?_ (IsS84.ge HI.out)) | exact HB.out), by repeat (first | (with_reducible first | exact HK.out | apply KeepBut.set_ | apply keep_drewN | apply keep_drew | apply keep_alloc) | exact HK.out)⟩
    · unfold spec_l01Src_n.f at h
      rw [if_neg h1, if_neg h2] at h
      cases h

theorem spec_l01Src_n.tot (l : List Int) (a m z w : Int) (hl : l.length ≤ 140737488355328) (h0 : 0 ≤ a) (h1 : a ≤ (l.length : Int)) (hw : w ≤ 9223372036854775807) :
    YtphjfenhnhfakaaDoorPts.Tot (spec_l01Src_n.f l a m z w) (fun r => 0 ≤ r.1 ∧ (r.1 < w ∨ r.1 = 0) ∧ 0 ≤ r.2.1 ∧ r.2.1 ≤ (l.length : Int) ∧ r.2.2.2 = z) := by
  have g : ∀ x : Int, 1 < w → 0 ≤ wrap64 ((IntKind.u64.wrap x).tmod w) ∧ wrap64 ((IntKind.u64.wrap x).tmod w) < w := by
    intro x hw1
    have hx : 0 ≤ IntKind.u64.wrap x := by simp [IntKind.wrap, IntKind.bits, IntKind.signed]; omega
    rw [Int.tmod_eq_emod_of_nonneg hx]
    have a1 := Int.emod_nonneg (IntKind.u64.wrap x) (show w ≠ 0 by omega)
    have a2 := Int.emod_lt_of_pos (IntKind.u64.wrap x) (show 0 < w by omega)
    obtain ⟨y, hy⟩ : ∃ y, IntKind.u64.wrap x % w = y := ⟨_, rfl⟩
    rw [hy] at a1 a2 ⊢
    clear hy hx
    unfold wrap64; omega
  unfold spec_l01Src_n.f
  by_cases c1 : w ≤ 1
  · rw [if_pos c1]
    exact YtphjfenhnhfakaaDoorPts.Tot.mk ⟨by simp, .inr rfl, h0, h1, rfl⟩
  · rw [if_neg c1, if_pos hw]
    have hw1 : 1 < w := by omega
    by_cases c2 : a < (l.length : Int)
    · rw [if_pos c2, if_pos h0]
      have e : wrap64 (a + 1) = a + 1 := by unfold wrap64; omega
      rw [e]
      unfold spec_l01Src_n.out
      exact YtphjfenhnhfakaaDoorPts.Tot.mk ⟨(g _ hw1).1, Or.inl (g _ hw1).2, by dsimp only; omega, by dsimp only; omega, rfl⟩
    · rw [if_neg c2]
      unfold spec_l01Src_n.out0
      exact YtphjfenhnhfakaaDoorPts.Tot.mk ⟨(g _ hw1).1, Or.inl (g _ hw1).2, h0, h1, rfl⟩

end Go.Proofs.YtphjfenhnhfakaaDoor.QFnDetected
