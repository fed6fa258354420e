/- The law FnQuick: at every input the call answers true (this text: contracts on its way, by a program of this session's; no condition of ours). -/
import Derived.Test.YtiabgmddnddeiaaDoorQFnQuickx0
import Derived.Test.YtiabgmddnddeiaaDoorQFnQuickx1
import Derived.Test.YtiabgmddnddeiaaDoorQFnQuickx5
import Derived.Test.YtiabgmddnddeiaaDoorQFnQuickx14
namespace Go.Proofs.YtiabgmddnddeiaaDoor.QFnQuick
open Go.RowKit Go.Proofs.YtiabgmddnddeiaaDoorW.PrintWords Go.Proofs.YtiabgmddnddeiaaDoorW.PrintLast Go.Proofs.YtiabgmddnddeiaaDoorW.PrintMore
attribute [local go_sem] max2_int min2_int max_two min_two max_three min_three max_four min_four   -- for this text's walks alone
set_option linter.unusedVariables false
set_option linter.unusedSimpArgs false

/-! ### impl_isSecond: function 143 -/
def impl_isSecond.f (a0 : Int) : Option (Bool) := (impl_in.f a0 4096 4103).bind fun t325 => (if t325 = true then (some true) else ((impl_in.f a0 4112 4119).bind fun t326 => (if t326 = true then (some true) else ((impl_in.f a0 1824 1844).bind fun t327 => (if t327 = true then (some true) else ((impl_in.f a0 1857 1883).bind fun t328 => (some t328)))))))
set_option maxHeartbeats 8000000 in
set_option maxRecDepth 100000 in
theorem impl_isSecond.calls (a0 : Int) (r : Bool) (w : World) (h : impl_isSecond.f a0 = some r) :
  Calls Tryd.prog 143 #[.int .i64 a0] w fun e w' => e = .returned (.bool r) ∧ Drawn0 w w' := by
 have H : ((impl_in.f a0 4096 4103).bind fun t325 => (if t325 = true then (some true) else ((impl_in.f a0 4112 4119).bind fun t326 => (if t326 = true then (some true) else ((impl_in.f a0 1824 1844).bind fun t327 => (if t327 = true then (some true) else ((impl_in.f a0 1857 1883).bind fun t328 => (some t328)))))))) = some r := h
 clear h
 replace H := Option.bind_eq_some_iff.mp H
 obtain ⟨t325, A20, H⟩ := H
 try dsimp only at H
 have A2 := Aside0.mk A20
 clear A20
 by_cases c3 : t325 = true
 ·subst c3
  have H1 : (some true) = some r := by rw [if_pos rfl] at H; exact H
  clear H; have H := H1; clear H1; obtain rfl := Option.some.inj H
  go_enter Tryd.func143, Tryd.ntmps143
  go_wp2_with (first | ((with_reducible refine gate_callee (f := 105) rfl ?_); refine goesL_ (some 4) rfl rfl Tryd.func105 (by kernel_rfl) rfl #[.int .i64 a0, .int .i64 4096, .int .i64 4103] rfl (by (try simp only [List.map_toArray, List.map_cons, List.map_nil]); first | done | rfl) ?_; (with_reducible refine (impl_in.calls a0 4096 4103 true _ A2.out).mono ?_); rintro e w' ⟨rfl, ⟨nd, rfl⟩⟩; refine ⟨_, rfl, ?_⟩))
  go_ret
  exact ⟨by first | rfl | (simp; done) | (simp [*]; done), by repeat (first | exact Drawn0.refl _ | apply Drawn0.step)⟩
 replace c3 := Bool.eq_false_iff.mpr c3
 subst c3
 have H1 : ((impl_in.f a0 4112 4119).bind fun t326 => (if t326 = true then (some true) else ((impl_in.f a0 1824 1844).bind fun t327 => (if t327 = true then (some true) else ((impl_in.f a0 1857 1883).bind fun t328 => (some t328)))))) = some r := by rw [if_neg (show ¬ (false = true) by decide)] at H; exact H
 clear H
 have H := H1
 clear H1
 replace H := Option.bind_eq_some_iff.mp H
 obtain ⟨t326, A40, H⟩ := H
 try dsimp only at H
 have A4 := Aside0.mk A40
 clear A40
 by_cases c5 : t326 = true
 ·subst c5
  have H1 : (some true) = some r := by rw [if_pos rfl] at H; exact H
  clear H; have H := H1; clear H1; obtain rfl := Option.some.inj H
  go_enter Tryd.func143, Tryd.ntmps143
  go_wp2_with (first | ((with_reducible refine gate_callee (f := 105) rfl ?_); refine goesL_ (some 4) rfl rfl Tryd.func105 (by kernel_rfl) rfl #[.int .i64 a0, .int .i64 4096, .int .i64 4103] rfl (by (try simp only [List.map_toArray, List.map_cons, List.map_nil]); first | done | rfl) ?_; (with_reducible refine (impl_in.calls a0 4096 4103 false _ A2.out).mono ?_); rintro e w' ⟨rfl, ⟨nd, rfl⟩⟩; refine ⟨_, rfl, ?_⟩) | (go_at_call 105; (with_reducible refine (impl_in.calls a0 4112 4119 true _ A4.out).mono ?_); rintro e w' ⟨rfl, ⟨nd, rfl⟩⟩))
  go_ret
  exact ⟨by first | rfl | (simp; done) | (simp [*]; done), by repeat (first | exact Drawn0.refl _ | apply Drawn0.step)⟩
 replace c5 := Bool.eq_false_iff.mpr c5
 subst c5
 have H1 : ((impl_in.f a0 1824 1844).bind fun t327 => (if t327 = true then (some true) else ((impl_in.f a0 1857 1883).bind fun t328 => (some t328)))) = some r := by rw [if_neg (show ¬ (false = true) by decide)] at H; exact H
 clear H
 have H := H1
 clear H1
 replace H := Option.bind_eq_some_iff.mp H
 obtain ⟨t327, A60, H⟩ := H
 try dsimp only at H
 have A6 := Aside0.mk A60
 clear A60
 by_cases c7 : t327 = true
 ·subst c7
  have H1 : (some true) = some r := by rw [if_pos rfl] at H; exact H
  clear H; have H := H1; clear H1; obtain rfl := Option.some.inj H
  go_enter Tryd.func143, Tryd.ntmps143
  go_wp2_with (first | ((with_reducible refine gate_callee (f := 105) rfl ?_); refine goesL_ (some 4) rfl rfl Tryd.func105 (by kernel_rfl) rfl #[.int .i64 a0, .int .i64 4096, .int .i64 4103] rfl (by (try simp only [List.map_toArray, List.map_cons, List.map_nil]); first | done | rfl) ?_; (with_reducible refine (impl_in.calls a0 4096 4103 false _ A2.out).mono ?_); rintro e w' ⟨rfl, ⟨nd, rfl⟩⟩; refine ⟨_, rfl, ?_⟩) | (go_at_call 105; (with_reducible refine (impl_in.calls a0 4112 4119 false _ A4.out).mono ?_); rintro e w' ⟨rfl, ⟨nd, rfl⟩⟩) | (go_at_call 105; (with_reducible refine (impl_in.calls a0 1824 1844 true _ A6.out).mono ?_); rintro e w' ⟨rfl, ⟨nd, rfl⟩⟩))
  go_ret
  exact ⟨by first | rfl | (simp; done) | (simp [*]; done), by repeat (first | exact Drawn0.refl _ | apply Drawn0.step)⟩
 replace c7 := Bool.eq_false_iff.mpr c7
 subst c7
 have H1 : ((impl_in.f a0 1857 1883).bind fun t328 => (some t328)) = some r := by rw [if_neg (show ¬ (false = true) by decide)] at H; exact H
 clear H
 have H := H1
 clear H1
 replace H := Option.bind_eq_some_iff.mp H
 obtain ⟨t328, A80, H⟩ := H
 try dsimp only at H
 have A8 := Aside0.mk A80
 clear A80
 obtain rfl := Option.some.inj H
 go_enter Tryd.func143, Tryd.ntmps143
 go_wp2_with (first | ((with_reducible refine gate_callee (f := 105) rfl ?_); refine goesL_ (some 4) rfl rfl Tryd.func105 (by kernel_rfl) rfl #[.int .i64 a0, .int .i64 4096, .int .i64 4103] rfl (by (try simp only [List.map_toArray, List.map_cons, List.map_nil]); first | done | rfl) ?_; (with_reducible refine (impl_in.calls a0 4096 4103 false _ A2.out).mono ?_); rintro e w' ⟨rfl, ⟨nd, rfl⟩⟩; refine ⟨_, rfl, ?_⟩) | (go_at_call 105; (with_reducible refine (impl_in.calls a0 4112 4119 false _ A4.out).mono ?_); rintro e w' ⟨rfl, ⟨nd, rfl⟩⟩) | (go_at_call 105; (with_reducible refine (impl_in.calls a0 1824 1844 false _ A6.out).mono ?_); rintro e w' ⟨rfl, ⟨nd, rfl⟩⟩) | (go_at_call 105; (with_reducible refine (impl_in.calls a0 1857 1883 t328 _ A8.out).mono ?_); rintro e w' ⟨rfl, ⟨nd, rfl⟩⟩))
 go_ret
 exact ⟨by first | rfl | (simp; done) | (simp [*]; done), by repeat (first | exact Drawn0.refl _ | apply Drawn0.step)⟩

/-! ### impl_QuickCheck: function 59 (by hand) -/
def impl_QuickCheck.f (f : Int) (t : ByteArray) : Option Int := if t.size ≤ 100000000 then some (YtiabgmddnddeiaaDoorQck.QC f t) else none
theorem impl_QuickCheck.sec (p : Int) (W : World) : Calls Tryd.prog 143 #[.int .i64 p] W fun e w' => e = .returned (.bool (decide (YtiabgmddnddeiaaDoorNrm.second p))) ∧ Drawn0 W w' := by
  refine impl_isSecond.calls p _ W ?_
  have hin : ∀ a b : Int, impl_in.f p a b = some (decide (a ≤ p ∧ p ≤ b)) := by
    intro a b
    unfold impl_in.f
    by_cases c : p ≥ a
    · rw [if_pos c, Option.some.injEq, decide_eq_decide]; omega
    · rw [if_neg c, decide_eq_false (fun z => c z.1)]
  unfold impl_isSecond.f
  rw [hin, hin, hin, hin]
  simp only [Option.bind_some, decide_eq_true_eq]
  unfold YtiabgmddnddeiaaDoorNrm.second
  by_cases c1 : 4096 ≤ p ∧ p ≤ 4103
  · rw [if_pos c1]; congr 1; symm; exact decide_eq_true (.inl c1)
  rw [if_neg c1]
  by_cases c2 : 4112 ≤ p ∧ p ≤ 4119
  · rw [if_pos c2]; congr 1; symm; exact decide_eq_true (.inr (.inl c2))
  rw [if_neg c2]
  by_cases c3 : 1824 ≤ p ∧ p ≤ 1844
  · rw [if_pos c3]; congr 1; symm; exact decide_eq_true (.inr (.inr (.inl c3)))
  rw [if_neg c3]
  by_cases c4 : 1857 ≤ p ∧ p ≤ 1883
  · rw [decide_eq_true c4]; congr 1; symm; exact decide_eq_true (.inr (.inr (.inr c4)))
  · rw [decide_eq_false c4]; congr 1; symm
    exact decide_eq_false (fun z => by rcases z with z | z | z | z; exact c1 z; exact c2 z; exact c3 z; exact c4 z)
theorem impl_QuickCheck.oneC {W : World} {b : Nat} {p : Int} (hb : W.heap[b]? = some (.cells #[.int .i64 p] 2 (0, 0))) : Kd.C (Kd.int .i64) W (some ⟨b, 0, none⟩) 1 [p] := by
  refine Kd.C_of_reads (d := (0 : Int)) (h1 := fun _ => rfl) ⟨rfl, by decide, fun _ => ⟨_, rfl, fun j hj => ?_⟩⟩
  obtain rfl : j = 0 := by omega
  exact (blk_cell hb 0).trans rfl
theorem impl_QuickCheck.new2 (w : World) (o o' : Obj) : ((w.alloc o).alloc o').heap[w.heap.size + 1]? = some o' := by
  have := blk_new (w.alloc o) o'
  simpa using this
theorem impl_QuickCheck.nrmC (f p : Int) (hf : 1 ≤ f ∧ f ≤ 4) (hp : 0 ≤ p ∧ p ≤ 1114111) (b : Nat) (W : World) (hb : W.heap[b]? = some (.cells #[.int .i64 p] 2 (0, 0))) :
    Calls Tryd.prog 94 #[.int .i64 f, .slice (some ⟨b, 0, none⟩) 1 1] W fun e w' => ∃ (A : Option Addr) (c : Nat), e = .returned (.slice A (YtiabgmddnddeiaaDoorNrm.nf f [p]).length c) ∧ Aside0 ((YtiabgmddnddeiaaDoorNrm.nf f [p]).length ≤ c ∧ Kd.C (Kd.int .i64) w' A (YtiabgmddnddeiaaDoorNrm.nf f [p]).length (YtiabgmddnddeiaaDoorNrm.nf f [p])) ∧ Aside0 (Below W.heap.size W w') := by
  refine (impl_normal.calls f (some ⟨b, 0, none⟩) 1 [p] (YtiabgmddnddeiaaDoorNrm.nf f [p]) W (impl_QuickCheck.oneC hb) (Nat.le_refl _) ?_).mono ?_
  · unfold impl_normal.f
    rw [if_pos ⟨hf.1, hf.2, by simp, fun q hq => by rw [List.mem_singleton.1 hq]; exact hp⟩]
  · rintro e w' ⟨v, rfl, ho, hb⟩
    obtain ⟨A, c, rfl⟩ := Kd.R_slice ho
    exact ⟨A, c, rfl, ⟨(Kd.R_reads' ho).2.1, (Kd.R_reads' ho).2.2⟩, ⟨hb⟩⟩
theorem impl_QuickCheck.eqC (A0 : Option Addr) (c0 : Nat) (l0 : List Int) (p : Int) (b : Nat) (W : World) (hl : l0.length ≤ 10) (h0 : Kd.C (Kd.int .i64) W A0 l0.length l0) (hc : l0.length ≤ c0) (hb : W.heap[b]? = some (.cells #[.int .i64 p] 2 (0, 0))) :
    Calls Tryd.prog 142 #[.slice A0 l0.length c0, .slice (some ⟨b, 0, none⟩) 1 1] W fun e w' => e = .returned (.bool (decide (l0 = [p]))) ∧ Drawn0 W w' :=
  W_slices_Equal_int64_int64.calls A0 c0 l0 (some ⟨b, 0, none⟩) 1 [p] _ W h0 hc (impl_QuickCheck.oneC hb) (Nat.le_refl _) (if_pos (by omega))
set_option maxHeartbeats 8000000 in
set_option maxRecDepth 100000 in
theorem impl_QuickCheck.calls (a0 : Int) (a1 : ByteArray) (r : Int) (w : World) (h : impl_QuickCheck.f a0 a1 = some r) (hG : GT w) :
    Calls Tryd.prog 59 #[.int .i64 a0, .string a1] w fun e w' => e = .returned (.int .i64 r) ∧ Below w.heap.size w w' := by
  unfold impl_QuickCheck.f at h
  by_cases hs : a1.size ≤ 100000000
  · rw [if_pos hs] at h
    have h := Option.some.inj h
    have HL := fun W => impl_long.calls a1 (decide ((a1.size : Int) > 65536)) W rfl
    have HN := fun W => impl_isNorm.calls a0 (YtiabgmddnddeiaaDoorNst.ok a0) W (impl_isNorm.eq a0)
    unfold YtiabgmddnddeiaaDoorQck.QC at h
    by_cases c : (a1.size : Int) > 65536 ∨ YtiabgmddnddeiaaDoorNst.ok a0 = false
    · rw [if_pos c] at h
      subst h
      by_cases c1 : (a1.size : Int) > 65536
      · rw [show decide ((a1.size : Int) > 65536) = true from decide_eq_true c1] at HL
        replace HL := Aside0.mk HL
        replace HN := Aside0.mk HN
        clear c1 c
        go_enter Tryd.func59, Tryd.ntmps59
        go_wp2_with (first | (go_at_call 86; ((with_reducible refine (HL.out _).mono ?_); rintro e w1 ⟨rfl, ⟨nd, rfl⟩⟩)))
        go_ret
        exact ⟨rfl, by repeat (first | exact Below.refl _ _ | apply pw_below_drewN)⟩
      · rcases c with c | c
        · exact absurd c c1
        rw [show decide ((a1.size : Int) > 65536) = false from decide_eq_false c1] at HL
        rw [c] at HN
        replace HL := Aside0.mk HL
        replace HN := Aside0.mk HN
        clear c1 c
        go_enter Tryd.func59, Tryd.ntmps59
        go_wp2_with (first | (go_at_call 86; ((with_reducible refine (HL.out _).mono ?_); rintro e w1 ⟨rfl, ⟨nd, rfl⟩⟩)) | (go_at_call 87; ((with_reducible refine (HN.out _).mono ?_); rintro e w2 ⟨rfl, ⟨nd2, rfl⟩⟩)))
        go_ret
        exact ⟨rfl, by repeat (first | exact Below.refl _ _ | apply pw_below_drewN)⟩
    · rw [if_neg c] at h
      have c1 : ¬ (a1.size : Int) > 65536 := fun z => c (.inl z)
      have c2 : YtiabgmddnddeiaaDoorNst.ok a0 = true := by cases e : YtiabgmddnddeiaaDoorNst.ok a0; exact absurd (.inr e) c; rfl
      rw [show decide ((a1.size : Int) > 65536) = false from decide_eq_false c1] at HL
      rw [c2] at HN
      replace HL := Aside0.mk HL
      replace HN := Aside0.mk HN
      have hf : 1 ≤ a0 ∧ a0 ≤ 4 := of_decide_eq_true c2
      obtain ⟨R, hR⟩ : ∃ R, (YtiabgmddnddeiaaDoorDec.reads (bytesOf a1)) = R := ⟨_, rfl⟩
      have HRD := Aside0.mk (fun W hW => W_impl_read.calls a1 (R.map impl_read.mk) W (by unfold W_impl_read.f; rw [if_pos (by omega), hR]) hW)
      have hRP : ∀ x ∈ R, 0 ≤ x.1 ∧ x.1 ≤ 1114111 := by
        intro x hx
        have : x.1 ∈ YtiabgmddnddeiaaDoorPts.pts (bytesOf a1) := by rw [← YtiabgmddnddeiaaDoorDec.reads_pts, hR]; exact List.mem_map.2 ⟨x, hx, rfl⟩
        have := YtiabgmddnddeiaaDoorPts.pts_isP _ _ (Nat.le_refl _) _ this
        unfold YtiabgmddnddeiaaDoorPts.isP at this
        omega
      have hRL : R.length ≤ 100000000 := by have := YtiabgmddnddeiaaDoorDec.reads_length (bytesOf a1); rw [hR] at this; have := bytesOf_length a1; omega
      have HRP := Aside0.mk hRP
      unfold YtiabgmddnddeiaaDoorQck.rp at h
      rw [hR] at h
      have HH := Aside0.mk h
      have HG := Aside0.mk hG
      clear h hR hRP c c1 c2 hs hG
      go_enter Tryd.func59, Tryd.ntmps59
      go_wp2_with (first | (go_at_call 86; ((with_reducible refine (HL.out _).mono ?_); rintro e w1 ⟨rfl, ⟨nd, rfl⟩⟩)) | (go_at_call 87; ((with_reducible refine (HN.out _).mono ?_); rintro e w2 ⟨rfl, ⟨nd2, rfl⟩⟩)) | (go_at_call 113; go_must (with_reducible refine (HRD.out _ ?_).mono ?_); (first | exact HG.out | exact GT.below HG.out (by repeat (first | exact Below.refl _ _ | apply pw_below_drewN))); rintro e w3 ⟨v3, rfl, ho, hb⟩; have HO : Aside0 (Kd.R k121 121 w3 w.heap.size (fun _ => True) v3 (R.map impl_read.mk)) := ⟨Kd.R_lower ho (by simp)⟩; have HB := Aside0.mk (below_step (by repeat (first | exact Below.refl _ _ | apply pw_below_drewN) : Below w.heap.size w _) hb); clear ho hb; obtain ⟨A3, k3, rfl⟩ := Kd.R_slice HO.out; rw [List.length_map] at HO ⊢))
      go_loopw [5, 6, 20] (fun v5 v6 v20 wr => ∃ (i : Nat) (out last : Int), i ≤ R.length ∧ v20 = .int .i64 i ∧ v5 = .int .i64 out ∧ v6 = .int .i64 last ∧ Aside0 (YtiabgmddnddeiaaDoorQck.qc a0 ((R.drop i).map (fun x => (x.1, x.2.2.2))) last out = r) ∧ Aside0 (Kd.R k121 121 wr w.heap.size (fun _ => True) (.slice A3 R.length k3) (R.map impl_read.mk)) ∧ Aside0 (Below w.heap.size w wr)) (fun _ _ v20 _ => R.length - (intOf v20).toNat)
      case atStart => exact ⟨0, 1, 0, Nat.zero_le _, rfl, rfl, rfl, HH, HO, HB⟩
      case round =>
        clear HO HB HH
        obtain ⟨i, out, last, hi, rfl, rfl, rfl, HH, HO, HB⟩ := hrel
        by_cases hlt : i < R.length
        · have p0 : (0 : Int) ≤ (i : Int) := by omega
          have p1 : (i : Int) < (R.length : Int) := by omega
          obtain ⟨ad, e1, hx0, hx1, hx2, hx3⟩ := at_T121 (Kd.R_reads' HO.out).2.2 (i : Int) p0 (by simpa using p1)
          cases e1
          obtain ⟨x, hx⟩ : ∃ x, R[i] = x := ⟨_, rfl⟩
          have hrd : rd_T121 (R.map impl_read.mk) (i : Int) = impl_read.mk x := by unfold rd_T121; simp [List.getD, hlt, hx]
          rw [hrd] at hx0 hx1 hx2 hx3
          have hpr := HRP.out x (by rw [← hx]; exact List.getElem_mem hlt)
          obtain ⟨p, fr, til, bad⟩ := x
          simp only [impl_read.mk, Int.toNat_natCast] at hx0 hx1 hx2 hx3
          have hq : YtiabgmddnddeiaaDoorQck.qc a0 ((R.drop i).map (fun x => (x.1, x.2.2.2))) last out = if bad = true ∨ (YtiabgmddnddeiaaDoorNrm.cls p ≠ 0 ∧ YtiabgmddnddeiaaDoorNrm.cls p < last) ∨ YtiabgmddnddeiaaDoorNrm.nf a0 [p] ≠ [p] then 2 else YtiabgmddnddeiaaDoorQck.qc a0 ((R.drop (i + 1)).map (fun x => (x.1, x.2.2.2))) (YtiabgmddnddeiaaDoorNrm.cls p) (if a0 % 2 = 0 ∧ YtiabgmddnddeiaaDoorNrm.second p then 3 else out) := by
            rw [List.drop_eq_getElem_cons hlt, hx]; rfl
          have HQ := Aside0.mk (hq.symm.trans HH.out)
          clear hq HH hrd hx
          have HM := Aside0.mk (fun W => impl_normal.mark p W)
          obtain ⟨c, hc⟩ : ∃ c, YtiabgmddnddeiaaDoorNrm.cls p = c := ⟨_, rfl⟩
          rw [hc] at HM HQ
          have q0 := eq_true p0
          have q1 := eq_true p1
          go_wp2_with (go_at_call 141; ((with_reducible refine (HM.out _).mono ?_); rintro e w4 ⟨rfl, ⟨nd4, rfl⟩⟩))
          obtain ⟨gb, hgb⟩ : ∃ g, wr.heap.size = g := ⟨_, rfl⟩
          have m0 := blk_drewN (blk_new wr (.cells #[.int .i64 p, .int .i64 fr, .int .i64 til, .bool bad] 121)) nd4
          have mo := Kd.R_drewN (Kd.R_alloc HO.out (.cells #[.int .i64 p, .int .i64 fr, .int .i64 til, .bool bad] 121)) nd4
          have mw := pw_below_drewN (below_alloc HB.out (.cells #[.int .i64 p, .int .i64 fr, .int .i64 til, .bool bad] 121)) nd4
          have mg : w.heap.size ≤ wr.heap.size := HB.out.size
          obtain ⟨wq, hw⟩ : ∃ x, (wr.alloc (.cells #[.int .i64 p, .int .i64 fr, .int .i64 til, .bool bad] 121)).drewN nd4 = x := ⟨_, rfl⟩
          rw [hw] at m0 mo mw ⊢
          clear hw
          rw [hgb] at m0 mg ⊢
          clear hgb hx0 hx1 hx2 hx3
          have k0 : wq.cell? ⟨gb, 0, none⟩ = some (.int .i64 p) := (blk_cell m0 0).trans rfl
          have kc3 : wq.cell? ⟨gb, 3, none⟩ = some (.bool bad) := (blk_cell m0 3).trans rfl
          have HO := Aside0.mk mo
          have HB := Aside0.mk mw
          have HM0 := Aside0.mk m0
          clear mo mw m0 HM
          have hret : ∀ W : World, Below w.heap.size w W → YtiabgmddnddeiaaDoorQck.qc 0 [] 0 2 = 2 := fun _ _ => rfl
          clear hret
          cases bad with
          | true =>
            have hr := HQ.out
            rw [if_pos (.inl rfl)] at hr
            subst hr
            go_quiet (fail)
            go_wp2
            go_ret
            exact ⟨rfl, by repeat (first | exact HB.out | apply pw_below_drewN)⟩
          | false =>
            by_cases h2 : c ≠ 0 ∧ c < last
            · have hr := HQ.out
              rw [if_pos (.inr (.inl h2))] at hr
              subst hr
              have b1 : (c != 0) = true := by simpa using h2.1
              have b2 : decide (c < last) = true := decide_eq_true h2.2
              clear h2
              go_quiet (fail)
              go_wp2
              go_ret
              exact ⟨rfl, by repeat (first | exact HB.out | apply pw_below_drewN)⟩
            · have hN := YtiabgmddnddeiaaDoorNst.nf_len a0 [p]
              obtain ⟨N, hNe⟩ : ∃ N, YtiabgmddnddeiaaDoorNrm.nf a0 [p] = N := ⟨_, rfl⟩
              have HNC := fun b W hb => impl_QuickCheck.nrmC a0 p hf hpr b W hb
              rw [hNe] at hN HQ
              simp only [hNe] at HNC
              replace HNC := Aside0.mk HNC
              have hN : N.length ≤ 10 := by simp only [List.length_cons, List.length_nil] at hN; omega
              have HNL := Aside0.mk hN
              clear hN hNe
              have HS := Aside0.mk (fun W => impl_QuickCheck.sec p W)
              have hcase : (c != 0) = false ∨ ((c != 0) = true ∧ decide (c < last) = false) := by
                by_cases c0 : c = 0
                · exact .inl (by simpa using c0)
                · exact .inr ⟨by simpa using c0, decide_eq_false (fun z => h2 ⟨c0, z⟩)⟩
              have H2 := Aside0.mk h2
              clear HRD HL HN HG HRP q0 q1 p0 p1 h2
              go_cut [49] (fun v49 wc => v49 = .bool (!decide (N = [p])) ∧ Aside0 (wc.heap[gb]? = some (.cells #[.int .i64 p, .int .i64 fr, .int .i64 til, .bool false] 121 (0, 0))) ∧ Aside0 (Kd.R k121 121 wc w.heap.size (fun _ => True) (.slice (some ad) R.length k3) (R.map impl_read.mk)) ∧ Aside0 (Below w.heap.size w wc))
              case first =>
                rcases hcase with b1 | ⟨b1, b2⟩
                · skip
                  refine wp_region_held_drew (S := (fun w' => w'.cell? ⟨gb, 0, none⟩ = some (.int .i64 p) ∧ w'.cell? ⟨gb, 3, none⟩ = some (.bool false))) (by kernel_rfl) (by (try dsimp only); exact ⟨(blk_cell (cs := #[.int .i64 p, .int .i64 fr, .int .i64 til, .bool false]) (t := 121) (by repeat (with_reducible first | exact HM0.out | exact M5.out | refine blk_alloc ?_ _ | refine blk_drewN ?_ _ | refine blk_drew ?_)) 0).trans rfl, (blk_cell (cs := #[.int .i64 p, .int .i64 fr, .int .i64 til, .bool false]) (t := 121) (by repeat (with_reducible first | exact HM0.out | exact M5.out | refine blk_alloc ?_ _ | refine blk_drewN ?_ _ | refine blk_drew ?_)) 3).trans rfl⟩) (fun hHeld => ?_)
                  refine wpAnyH_take (i := 0) (v := ?_) rfl (by kernel_rfl) (by kernel_rfl) (by kernel_rfl) (fun _ _ _ h => h) (Or.inl ⟨by rfl, ?_⟩) (by assumption) ?_
                  rotate_left
                  · intro w hSw; (try dsimp only at hSw); go_simp; try with_reducible rfl
                  try simp only [List.getElem_toArray, List.getElem_cons_succ, List.getElem_cons_zero, Act.put, List.setIfInBounds_toArray, List.set_cons_zero, List.set_cons_succ]
                  refine wpAnyH_take (i := 1) (v := ?_) rfl (by kernel_rfl) (by kernel_rfl) (by kernel_rfl) (fun _ _ _ h => h) (Or.inl ⟨by rfl, ?_⟩) (by assumption) ?_
                  rotate_left
                  · intro w hSw; (try dsimp only at hSw); go_simp; try with_reducible rfl
                  try simp only [List.getElem_toArray, List.getElem_cons_succ, List.getElem_cons_zero, Act.put, List.setIfInBounds_toArray, List.set_cons_zero, List.set_cons_succ]
                  refine wpAnyH_take (i := 2) (v := ?_) rfl (by kernel_rfl) (by kernel_rfl) (by kernel_rfl) (fun _ _ _ h => h) (Or.inl ⟨by rfl, ?_⟩) (by assumption) ?_
                  rotate_left
                  · intro w hSw; (try dsimp only at hSw); go_simp; try with_reducible rfl
                  try simp only [List.getElem_toArray, List.getElem_cons_succ, List.getElem_cons_zero, Act.put, List.setIfInBounds_toArray, List.set_cons_zero, List.set_cons_succ]
                  refine wpAnyH_take (i := 3) (v := ?_) rfl (by kernel_rfl) (by kernel_rfl) (by kernel_rfl) (fun _ _ _ h => h) (Or.inl ⟨by rfl, ?_⟩) (by assumption) ?_
                  rotate_left
                  · intro w hSw; (try dsimp only at hSw); go_simp; try with_reducible rfl
                  try simp only [List.getElem_toArray, List.getElem_cons_succ, List.getElem_cons_zero, Act.put, List.setIfInBounds_toArray, List.set_cons_zero, List.set_cons_succ]
                  refine wpAnyH_take (i := 4) (v := ?_) rfl (by kernel_rfl) (by kernel_rfl) (by kernel_rfl) (fun _ _ _ h => h) (Or.inl ⟨by rfl, ?_⟩) (by assumption) ?_
                  rotate_left
                  · intro w hSw; (try dsimp only at hSw); go_simp; try with_reducible rfl
                  try simp only [List.getElem_toArray, List.getElem_cons_succ, List.getElem_cons_zero, Act.put, List.setIfInBounds_toArray, List.set_cons_zero, List.set_cons_succ]
                  refine wpAnyH_take (i := 5) (v := ?_) rfl (by kernel_rfl) (by kernel_rfl) (by kernel_rfl) (fun _ _ _ h => h) (Or.inl ⟨by rfl, ?_⟩) (by assumption) ?_
                  rotate_left
                  · intro w hSw; (try dsimp only at hSw); go_simp; try with_reducible rfl
                  try simp only [List.getElem_toArray, List.getElem_cons_succ, List.getElem_cons_zero, Act.put, List.setIfInBounds_toArray, List.set_cons_zero, List.set_cons_succ]
                  refine wpAnyH_take (i := 6) (v := undef) rfl (by kernel_rfl) (by kernel_rfl) (by kernel_rfl) (fun _ _ _ h => h) (Or.inr ⟨by rfl, rfl⟩) (by assumption) ?_
                  try simp only [List.getElem_toArray, List.getElem_cons_succ, List.getElem_cons_zero, Act.put, List.setIfInBounds_toArray, List.set_cons_zero, List.set_cons_succ]
                  refine wpAnyH_take (i := 7) (v := undef) rfl (by kernel_rfl) (by kernel_rfl) (by kernel_rfl) (fun _ _ _ h => h) (Or.inr ⟨by rfl, rfl⟩) (by assumption) ?_
                  try simp only [List.getElem_toArray, List.getElem_cons_succ, List.getElem_cons_zero, Act.put, List.setIfInBounds_toArray, List.set_cons_zero, List.set_cons_succ]
                  refine wpAnyH_take (i := 8) (v := undef) rfl (by kernel_rfl) (by kernel_rfl) (by kernel_rfl) (fun _ _ _ h => h) (Or.inr ⟨by rfl, rfl⟩) (by assumption) ?_
                  try simp only [List.getElem_toArray, List.getElem_cons_succ, List.getElem_cons_zero, Act.put, List.setIfInBounds_toArray, List.set_cons_zero, List.set_cons_succ]
                  refine wpAnyH_take (i := 9) (v := ?_) rfl (by kernel_rfl) (by kernel_rfl) (by kernel_rfl) (fun _ _ _ h => h) (Or.inl ⟨by rfl, ?_⟩) (by assumption) ?_
                  rotate_left
                  · intro w hSw; (try dsimp only at hSw); go_simp; try with_reducible rfl
                  try simp only [List.getElem_toArray, List.getElem_cons_succ, List.getElem_cons_zero, Act.put, List.setIfInBounds_toArray, List.set_cons_zero, List.set_cons_succ]
                  refine wpAnyH_take (i := 10) (v := ?_) rfl (by kernel_rfl) (by kernel_rfl) (by kernel_rfl) (fun _ _ _ h => h) (Or.inl ⟨by rfl, ?_⟩) (by assumption) ?_
                  rotate_left
                  · intro w hSw; (try dsimp only at hSw); go_simp; try with_reducible rfl
                  try simp only [List.getElem_toArray, List.getElem_cons_succ, List.getElem_cons_zero, Act.put, List.setIfInBounds_toArray, List.set_cons_zero, List.set_cons_succ]
                  refine wpAnyH_take (i := 11) (v := ?_) rfl (by kernel_rfl) (by kernel_rfl) (by kernel_rfl) (fun _ _ _ h => h) (Or.inl ⟨by rfl, ?_⟩) (by assumption) ?_
                  rotate_left
                  · intro w hSw; (try dsimp only at hSw); go_simp; try with_reducible rfl
                  try simp only [List.getElem_toArray, List.getElem_cons_succ, List.getElem_cons_zero, Act.put, List.setIfInBounds_toArray, List.set_cons_zero, List.set_cons_succ]
                  refine wpAnyH_take (i := 12) (v := ?_) rfl (by kernel_rfl) (by kernel_rfl) (by kernel_rfl) (fun _ _ _ h => h) (Or.inl ⟨by rfl, ?_⟩) (by assumption) ?_
                  rotate_left
                  · intro w hSw; (try dsimp only at hSw); go_simp; try with_reducible rfl
                  try simp only [List.getElem_toArray, List.getElem_cons_succ, List.getElem_cons_zero, Act.put, List.setIfInBounds_toArray, List.set_cons_zero, List.set_cons_succ]
                  refine wpAnyH_take (i := 13) (v := ?_) rfl (by kernel_rfl) (by kernel_rfl) (by kernel_rfl) (fun _ _ _ h => h) (Or.inl ⟨by rfl, ?_⟩) (by assumption) ?_
                  rotate_left
                  · intro w hSw; (try dsimp only at hSw); go_simp; try with_reducible rfl
                  try simp only [List.getElem_toArray, List.getElem_cons_succ, List.getElem_cons_zero, Act.put, List.setIfInBounds_toArray, List.set_cons_zero, List.set_cons_succ]
                  refine wpAnyH_take (i := 14) (v := ?_) rfl (by kernel_rfl) (by kernel_rfl) (by kernel_rfl) (fun _ _ _ h => h) (Or.inl ⟨by rfl, ?_⟩) (by assumption) ?_
                  rotate_left
                  · intro w hSw; (try dsimp only at hSw); go_simp; try with_reducible rfl
                  try simp only [List.getElem_toArray, List.getElem_cons_succ, List.getElem_cons_zero, Act.put, List.setIfInBounds_toArray, List.set_cons_zero, List.set_cons_succ]
                  refine wpAnyH_take (i := 17) (v := ?_) rfl (by kernel_rfl) (by kernel_rfl) (by kernel_rfl) (fun _ _ _ h => h) (Or.inl ⟨by rfl, ?_⟩) (by assumption) ?_
                  rotate_left
                  · intro w hSw; (try dsimp only at hSw); go_simp; try with_reducible rfl
                  try simp only [List.getElem_toArray, List.getElem_cons_succ, List.getElem_cons_zero, Act.put, List.setIfInBounds_toArray, List.set_cons_zero, List.set_cons_succ]
                  refine wpAnyH_take (i := 18) (v := ?_) rfl (by kernel_rfl) (by kernel_rfl) (by kernel_rfl) (fun _ _ _ h => h) (Or.inl ⟨by rfl, ?_⟩) (by assumption) ?_
                  rotate_left
                  · intro w hSw; (try dsimp only at hSw); go_simp; try with_reducible rfl
                  try simp only [List.getElem_toArray, List.getElem_cons_succ, List.getElem_cons_zero, Act.put, List.setIfInBounds_toArray, List.set_cons_zero, List.set_cons_succ]
                  refine wpAnyH_ready (rs := [15, 19]) (by kernel_rfl) (by simp) ?_
                  refine AllReadyH.cons rfl (fun K hK => ?_) ?_
                  · go_simp
                    first | refine hK.out _ _ ?_ (fun hHeld => ?_) | (go_wp2_with fail; refine hK.out _ _ ?_ (fun hHeld => ?_))
                    · (try dsimp only); exact ⟨(blk_cell (cs := #[.int .i64 p, .int .i64 fr, .int .i64 til, .bool false]) (t := 121) (by repeat (with_reducible first | exact HM0.out | exact M5.out | refine blk_alloc ?_ _ | refine blk_drewN ?_ _ | refine blk_drew ?_)) 0).trans rfl, (blk_cell (cs := #[.int .i64 p, .int .i64 fr, .int .i64 til, .bool false]) (t := 121) (by repeat (with_reducible first | exact HM0.out | exact M5.out | refine blk_alloc ?_ _ | refine blk_drewN ?_ _ | refine blk_drew ?_)) 3).trans rfl⟩
                    clear hK K
                    try simp only [List.getElem_toArray, List.getElem_cons_succ, List.getElem_cons_zero, Act.put, List.setIfInBounds_toArray, List.set_cons_zero, List.set_cons_succ]
                    refine wpAnyH_ready (rs := [16, 19]) (by kernel_rfl) (by simp) ?_
                    refine AllReadyH.cons rfl (fun K hK => ?_) ?_
                    · go_simp
                      first | (go_at_call 94; (with_reducible refine (HNC.out _ _ ?_).mono ?_); (repeat (with_reducible first | exact blk_new _ _ | exact impl_QuickCheck.new2 _ _ _ | refine blk_alloc ?_ _ | refine blk_drewN ?_ _ | refine blk_drew ?_)); rintro e w5 ⟨A5, k5, rfl, HC5, HB5⟩; have M5 : Aside0 (w5.heap[gb]? = some (.cells #[.int .i64 p, .int .i64 fr, .int .i64 til, .bool false] 121 (0, 0))) := ⟨blk_below (by repeat (with_reducible first | exact HM0.out | refine blk_alloc ?_ _ | refine blk_drewN ?_ _ | refine blk_drew ?_)) HB5.out⟩) | (go_at_call 142; (with_reducible refine (impl_QuickCheck.eqC A5 k5 N p _ _ HNL.out ?_ HC5.out.1 ?_).mono ?_); (repeat (first | (with_reducible exact HC5.out.2) | (with_reducible refine Kd.C_alloc ?_ _) | (with_reducible refine Kd.C_drewN ?_ _) | (with_reducible refine Kd.C_drew ?_))); (repeat (with_reducible first | exact blk_new _ _ | exact impl_QuickCheck.new2 _ _ _ | refine blk_alloc ?_ _ | refine blk_drewN ?_ _ | refine blk_drew ?_ | refine blk_below ?_ HB5.out)); rintro e w6 ⟨rfl, ⟨nd6, rfl⟩⟩)
                      first | refine hK.out _ _ ?_ (fun hHeld => ?_) | (go_wp2_with fail; refine hK.out _ _ ?_ (fun hHeld => ?_))
                      · (try dsimp only); exact ⟨(blk_cell (cs := #[.int .i64 p, .int .i64 fr, .int .i64 til, .bool false]) (t := 121) (by repeat (with_reducible first | exact HM0.out | exact M5.out | refine blk_alloc ?_ _ | refine blk_drewN ?_ _ | refine blk_drew ?_)) 0).trans rfl, (blk_cell (cs := #[.int .i64 p, .int .i64 fr, .int .i64 til, .bool false]) (t := 121) (by repeat (with_reducible first | exact HM0.out | exact M5.out | refine blk_alloc ?_ _ | refine blk_drewN ?_ _ | refine blk_drew ?_)) 3).trans rfl⟩
                      clear hK K
                      try simp only [List.getElem_toArray, List.getElem_cons_succ, List.getElem_cons_zero, Act.put, List.setIfInBounds_toArray, List.set_cons_zero, List.set_cons_succ]
                      refine wpAnyH_ready (rs := [19]) (by kernel_rfl) (by simp) ?_
                      refine AllReadyH.cons rfl (fun K hK => ?_) ?_
                      · go_simp
                        first | refine hK.out _ _ ?_ (fun hHeld => ?_) | (go_wp2_with fail; refine hK.out _ _ ?_ (fun hHeld => ?_))
                        · (try dsimp only); exact ⟨(blk_cell (cs := #[.int .i64 p, .int .i64 fr, .int .i64 til, .bool false]) (t := 121) (by repeat (with_reducible first | exact HM0.out | exact M5.out | refine blk_alloc ?_ _ | refine blk_drewN ?_ _ | refine blk_drew ?_)) 0).trans rfl, (blk_cell (cs := #[.int .i64 p, .int .i64 fr, .int .i64 til, .bool false]) (t := 121) (by repeat (with_reducible first | exact HM0.out | exact M5.out | refine blk_alloc ?_ _ | refine blk_drewN ?_ _ | refine blk_drew ?_)) 3).trans rfl⟩
                        clear hK K
                        try simp only [List.getElem_toArray, List.getElem_cons_succ, List.getElem_cons_zero, Act.put, List.setIfInBounds_toArray, List.set_cons_zero, List.set_cons_succ]
                        refine wpAnyH_ready (rs := [20]) (by kernel_rfl) (by simp) ?_
                        refine AllReadyH.cons rfl (fun K hK => ?_) ?_
                        · go_simp
                          first | (go_at_call 94; (with_reducible refine (HNC.out _ _ ?_).mono ?_); (repeat (with_reducible first | exact blk_new _ _ | exact impl_QuickCheck.new2 _ _ _ | refine blk_alloc ?_ _ | refine blk_drewN ?_ _ | refine blk_drew ?_)); rintro e w5 ⟨A5, k5, rfl, HC5, HB5⟩; have M5 : Aside0 (w5.heap[gb]? = some (.cells #[.int .i64 p, .int .i64 fr, .int .i64 til, .bool false] 121 (0, 0))) := ⟨blk_below (by repeat (with_reducible first | exact HM0.out | refine blk_alloc ?_ _ | refine blk_drewN ?_ _ | refine blk_drew ?_)) HB5.out⟩) | (go_at_call 142; (with_reducible refine (impl_QuickCheck.eqC A5 k5 N p _ _ HNL.out ?_ HC5.out.1 ?_).mono ?_); (repeat (first | (with_reducible exact HC5.out.2) | (with_reducible refine Kd.C_alloc ?_ _) | (with_reducible refine Kd.C_drewN ?_ _) | (with_reducible refine Kd.C_drew ?_))); (repeat (with_reducible first | exact blk_new _ _ | exact impl_QuickCheck.new2 _ _ _ | refine blk_alloc ?_ _ | refine blk_drewN ?_ _ | refine blk_drew ?_ | refine blk_below ?_ HB5.out)); rintro e w6 ⟨rfl, ⟨nd6, rfl⟩⟩)
                          first | refine hK.out _ _ ?_ (fun hHeld => ?_) | (go_wp2_with fail; refine hK.out _ _ ?_ (fun hHeld => ?_))
                          · (try dsimp only); exact ⟨(blk_cell (cs := #[.int .i64 p, .int .i64 fr, .int .i64 til, .bool false]) (t := 121) (by repeat (with_reducible first | exact HM0.out | exact M5.out | refine blk_alloc ?_ _ | refine blk_drewN ?_ _ | refine blk_drew ?_)) 0).trans rfl, (blk_cell (cs := #[.int .i64 p, .int .i64 fr, .int .i64 til, .bool false]) (t := 121) (by repeat (with_reducible first | exact HM0.out | exact M5.out | refine blk_alloc ?_ _ | refine blk_drewN ?_ _ | refine blk_drew ?_)) 3).trans rfl⟩
                          clear hK K
                          try simp only [List.getElem_toArray, List.getElem_cons_succ, List.getElem_cons_zero, Act.put, List.setIfInBounds_toArray, List.set_cons_zero, List.set_cons_succ]
                          refine wpAnyH_take (i := 21) (v := ?_) rfl (by kernel_rfl) (by kernel_rfl) (by kernel_rfl) (fun _ _ _ h => h) (Or.inl ⟨by rfl, ?_⟩) (by assumption) ?_
                          rotate_left
                          · intro w hSw; (try dsimp only at hSw); go_simp; try with_reducible rfl
                          try simp only [List.getElem_toArray, List.getElem_cons_succ, List.getElem_cons_zero, Act.put, List.setIfInBounds_toArray, List.set_cons_zero, List.set_cons_succ]
                          refine wpAnyH_take (i := 22) (v := ?_) rfl (by kernel_rfl) (by kernel_rfl) (by kernel_rfl) (fun _ _ _ h => h) (Or.inl ⟨by rfl, ?_⟩) (by assumption) ?_
                          rotate_left
                          · intro w hSw; (try dsimp only at hSw); go_simp; try with_reducible rfl
                          try simp only [List.getElem_toArray, List.getElem_cons_succ, List.getElem_cons_zero, Act.put, List.setIfInBounds_toArray, List.set_cons_zero, List.set_cons_succ]
                          refine wpAnyH_done (by kernel_rfl) ?_ _
                          go_wp2
                          go_meet
                          case rel => exact ⟨by first | rfl | (simp; done), ⟨by repeat (with_reducible first | exact HM0.out | exact M5.out | refine blk_alloc ?_ _ | refine blk_drewN ?_ _ | refine blk_drew ?_)⟩, ⟨by repeat (with_reducible first | exact HO.out | refine Kd.R_alloc ?_ _ | refine Kd.R_drewN ?_ _ | refine Kd.R_drew ?_ | refine Kd.R_below ?_ HB5.out)⟩, ⟨by repeat (with_reducible first | exact HB.out | apply below_alloc | apply pw_below_drewN | apply below_drew1 | refine below_step ?_ HB5.out)⟩⟩
                        exact AllReadyH.nil
                      exact AllReadyH.nil
                    refine AllReadyH.cons rfl (fun K hK => ?_) ?_
                    · go_simp
                      first | refine hK.out _ _ ?_ (fun hHeld => ?_) | (go_wp2_with fail; refine hK.out _ _ ?_ (fun hHeld => ?_))
                      · (try dsimp only); exact ⟨(blk_cell (cs := #[.int .i64 p, .int .i64 fr, .int .i64 til, .bool false]) (t := 121) (by repeat (with_reducible first | exact HM0.out | exact M5.out | refine blk_alloc ?_ _ | refine blk_drewN ?_ _ | refine blk_drew ?_)) 0).trans rfl, (blk_cell (cs := #[.int .i64 p, .int .i64 fr, .int .i64 til, .bool false]) (t := 121) (by repeat (with_reducible first | exact HM0.out | exact M5.out | refine blk_alloc ?_ _ | refine blk_drewN ?_ _ | refine blk_drew ?_)) 3).trans rfl⟩
                      clear hK K
                      try simp only [List.getElem_toArray, List.getElem_cons_succ, List.getElem_cons_zero, Act.put, List.setIfInBounds_toArray, List.set_cons_zero, List.set_cons_succ]
                      refine wpAnyH_ready (rs := [16]) (by kernel_rfl) (by simp) ?_
                      refine AllReadyH.cons rfl (fun K hK => ?_) ?_
                      · go_simp
                        first | (go_at_call 94; (with_reducible refine (HNC.out _ _ ?_).mono ?_); (repeat (with_reducible first | exact blk_new _ _ | exact impl_QuickCheck.new2 _ _ _ | refine blk_alloc ?_ _ | refine blk_drewN ?_ _ | refine blk_drew ?_)); rintro e w5 ⟨A5, k5, rfl, HC5, HB5⟩; have M5 : Aside0 (w5.heap[gb]? = some (.cells #[.int .i64 p, .int .i64 fr, .int .i64 til, .bool false] 121 (0, 0))) := ⟨blk_below (by repeat (with_reducible first | exact HM0.out | refine blk_alloc ?_ _ | refine blk_drewN ?_ _ | refine blk_drew ?_)) HB5.out⟩) | (go_at_call 142; (with_reducible refine (impl_QuickCheck.eqC A5 k5 N p _ _ HNL.out ?_ HC5.out.1 ?_).mono ?_); (repeat (first | (with_reducible exact HC5.out.2) | (with_reducible refine Kd.C_alloc ?_ _) | (with_reducible refine Kd.C_drewN ?_ _) | (with_reducible refine Kd.C_drew ?_))); (repeat (with_reducible first | exact blk_new _ _ | exact impl_QuickCheck.new2 _ _ _ | refine blk_alloc ?_ _ | refine blk_drewN ?_ _ | refine blk_drew ?_ | refine blk_below ?_ HB5.out)); rintro e w6 ⟨rfl, ⟨nd6, rfl⟩⟩)
                        first | refine hK.out _ _ ?_ (fun hHeld => ?_) | (go_wp2_with fail; refine hK.out _ _ ?_ (fun hHeld => ?_))
                        · (try dsimp only); exact ⟨(blk_cell (cs := #[.int .i64 p, .int .i64 fr, .int .i64 til, .bool false]) (t := 121) (by repeat (with_reducible first | exact HM0.out | exact M5.out | refine blk_alloc ?_ _ | refine blk_drewN ?_ _ | refine blk_drew ?_)) 0).trans rfl, (blk_cell (cs := #[.int .i64 p, .int .i64 fr, .int .i64 til, .bool false]) (t := 121) (by repeat (with_reducible first | exact HM0.out | exact M5.out | refine blk_alloc ?_ _ | refine blk_drewN ?_ _ | refine blk_drew ?_)) 3).trans rfl⟩
                        clear hK K
                        try simp only [List.getElem_toArray, List.getElem_cons_succ, List.getElem_cons_zero, Act.put, List.setIfInBounds_toArray, List.set_cons_zero, List.set_cons_succ]
                        refine wpAnyH_ready (rs := [20]) (by kernel_rfl) (by simp) ?_
                        refine AllReadyH.cons rfl (fun K hK => ?_) ?_
                        · go_simp
                          first | (go_at_call 94; (with_reducible refine (HNC.out _ _ ?_).mono ?_); (repeat (with_reducible first | exact blk_new _ _ | exact impl_QuickCheck.new2 _ _ _ | refine blk_alloc ?_ _ | refine blk_drewN ?_ _ | refine blk_drew ?_)); rintro e w5 ⟨A5, k5, rfl, HC5, HB5⟩; have M5 : Aside0 (w5.heap[gb]? = some (.cells #[.int .i64 p, .int .i64 fr, .int .i64 til, .bool false] 121 (0, 0))) := ⟨blk_below (by repeat (with_reducible first | exact HM0.out | refine blk_alloc ?_ _ | refine blk_drewN ?_ _ | refine blk_drew ?_)) HB5.out⟩) | (go_at_call 142; (with_reducible refine (impl_QuickCheck.eqC A5 k5 N p _ _ HNL.out ?_ HC5.out.1 ?_).mono ?_); (repeat (first | (with_reducible exact HC5.out.2) | (with_reducible refine Kd.C_alloc ?_ _) | (with_reducible refine Kd.C_drewN ?_ _) | (with_reducible refine Kd.C_drew ?_))); (repeat (with_reducible first | exact blk_new _ _ | exact impl_QuickCheck.new2 _ _ _ | refine blk_alloc ?_ _ | refine blk_drewN ?_ _ | refine blk_drew ?_ | refine blk_below ?_ HB5.out)); rintro e w6 ⟨rfl, ⟨nd6, rfl⟩⟩)
                          first | refine hK.out _ _ ?_ (fun hHeld => ?_) | (go_wp2_with fail; refine hK.out _ _ ?_ (fun hHeld => ?_))
                          · (try dsimp only); exact ⟨(blk_cell (cs := #[.int .i64 p, .int .i64 fr, .int .i64 til, .bool false]) (t := 121) (by repeat (with_reducible first | exact HM0.out | exact M5.out | refine blk_alloc ?_ _ | refine blk_drewN ?_ _ | refine blk_drew ?_)) 0).trans rfl, (blk_cell (cs := #[.int .i64 p, .int .i64 fr, .int .i64 til, .bool false]) (t := 121) (by repeat (with_reducible first | exact HM0.out | exact M5.out | refine blk_alloc ?_ _ | refine blk_drewN ?_ _ | refine blk_drew ?_)) 3).trans rfl⟩
                          clear hK K
                          try simp only [List.getElem_toArray, List.getElem_cons_succ, List.getElem_cons_zero, Act.put, List.setIfInBounds_toArray, List.set_cons_zero, List.set_cons_succ]
                          refine wpAnyH_take (i := 21) (v := ?_) rfl (by kernel_rfl) (by kernel_rfl) (by kernel_rfl) (fun _ _ _ h => h) (Or.inl ⟨by rfl, ?_⟩) (by assumption) ?_
                          rotate_left
                          · intro w hSw; (try dsimp only at hSw); go_simp; try with_reducible rfl
                          try simp only [List.getElem_toArray, List.getElem_cons_succ, List.getElem_cons_zero, Act.put, List.setIfInBounds_toArray, List.set_cons_zero, List.set_cons_succ]
                          refine wpAnyH_take (i := 22) (v := ?_) rfl (by kernel_rfl) (by kernel_rfl) (by kernel_rfl) (fun _ _ _ h => h) (Or.inl ⟨by rfl, ?_⟩) (by assumption) ?_
                          rotate_left
                          · intro w hSw; (try dsimp only at hSw); go_simp; try with_reducible rfl
                          try simp only [List.getElem_toArray, List.getElem_cons_succ, List.getElem_cons_zero, Act.put, List.setIfInBounds_toArray, List.set_cons_zero, List.set_cons_succ]
                          refine wpAnyH_done (by kernel_rfl) ?_ _
                          go_wp2
                          go_meet
                          case rel => exact ⟨by first | rfl | (simp; done), ⟨by repeat (with_reducible first | exact HM0.out | exact M5.out | refine blk_alloc ?_ _ | refine blk_drewN ?_ _ | refine blk_drew ?_)⟩, ⟨by repeat (with_reducible first | exact HO.out | refine Kd.R_alloc ?_ _ | refine Kd.R_drewN ?_ _ | refine Kd.R_drew ?_ | refine Kd.R_below ?_ HB5.out)⟩, ⟨by repeat (with_reducible first | exact HB.out | apply below_alloc | apply pw_below_drewN | apply below_drew1 | refine below_step ?_ HB5.out)⟩⟩
                        exact AllReadyH.nil
                      exact AllReadyH.nil
                    exact AllReadyH.nil
                  refine AllReadyH.cons rfl (fun K hK => ?_) ?_
                  · go_simp
                    first | refine hK.out _ _ ?_ (fun hHeld => ?_) | (go_wp2_with fail; refine hK.out _ _ ?_ (fun hHeld => ?_))
                    · (try dsimp only); exact ⟨(blk_cell (cs := #[.int .i64 p, .int .i64 fr, .int .i64 til, .bool false]) (t := 121) (by repeat (with_reducible first | exact HM0.out | exact M5.out | refine blk_alloc ?_ _ | refine blk_drewN ?_ _ | refine blk_drew ?_)) 0).trans rfl, (blk_cell (cs := #[.int .i64 p, .int .i64 fr, .int .i64 til, .bool false]) (t := 121) (by repeat (with_reducible first | exact HM0.out | exact M5.out | refine blk_alloc ?_ _ | refine blk_drewN ?_ _ | refine blk_drew ?_)) 3).trans rfl⟩
                    clear hK K
                    try simp only [List.getElem_toArray, List.getElem_cons_succ, List.getElem_cons_zero, Act.put, List.setIfInBounds_toArray, List.set_cons_zero, List.set_cons_succ]
                    refine wpAnyH_ready (rs := [15]) (by kernel_rfl) (by simp) ?_
                    refine AllReadyH.cons rfl (fun K hK => ?_) ?_
                    · go_simp
                      first | refine hK.out _ _ ?_ (fun hHeld => ?_) | (go_wp2_with fail; refine hK.out _ _ ?_ (fun hHeld => ?_))
                      · (try dsimp only); exact ⟨(blk_cell (cs := #[.int .i64 p, .int .i64 fr, .int .i64 til, .bool false]) (t := 121) (by repeat (with_reducible first | exact HM0.out | exact M5.out | refine blk_alloc ?_ _ | refine blk_drewN ?_ _ | refine blk_drew ?_)) 0).trans rfl, (blk_cell (cs := #[.int .i64 p, .int .i64 fr, .int .i64 til, .bool false]) (t := 121) (by repeat (with_reducible first | exact HM0.out | exact M5.out | refine blk_alloc ?_ _ | refine blk_drewN ?_ _ | refine blk_drew ?_)) 3).trans rfl⟩
                      clear hK K
                      try simp only [List.getElem_toArray, List.getElem_cons_succ, List.getElem_cons_zero, Act.put, List.setIfInBounds_toArray, List.set_cons_zero, List.set_cons_succ]
                      refine wpAnyH_ready (rs := [16]) (by kernel_rfl) (by simp) ?_
                      refine AllReadyH.cons rfl (fun K hK => ?_) ?_
                      · go_simp
                        first | (go_at_call 94; (with_reducible refine (HNC.out _ _ ?_).mono ?_); (repeat (with_reducible first | exact blk_new _ _ | exact impl_QuickCheck.new2 _ _ _ | refine blk_alloc ?_ _ | refine blk_drewN ?_ _ | refine blk_drew ?_)); rintro e w5 ⟨A5, k5, rfl, HC5, HB5⟩; have M5 : Aside0 (w5.heap[gb]? = some (.cells #[.int .i64 p, .int .i64 fr, .int .i64 til, .bool false] 121 (0, 0))) := ⟨blk_below (by repeat (with_reducible first | exact HM0.out | refine blk_alloc ?_ _ | refine blk_drewN ?_ _ | refine blk_drew ?_)) HB5.out⟩) | (go_at_call 142; (with_reducible refine (impl_QuickCheck.eqC A5 k5 N p _ _ HNL.out ?_ HC5.out.1 ?_).mono ?_); (repeat (first | (with_reducible exact HC5.out.2) | (with_reducible refine Kd.C_alloc ?_ _) | (with_reducible refine Kd.C_drewN ?_ _) | (with_reducible refine Kd.C_drew ?_))); (repeat (with_reducible first | exact blk_new _ _ | exact impl_QuickCheck.new2 _ _ _ | refine blk_alloc ?_ _ | refine blk_drewN ?_ _ | refine blk_drew ?_ | refine blk_below ?_ HB5.out)); rintro e w6 ⟨rfl, ⟨nd6, rfl⟩⟩)
                        first | refine hK.out _ _ ?_ (fun hHeld => ?_) | (go_wp2_with fail; refine hK.out _ _ ?_ (fun hHeld => ?_))
                        · (try dsimp only); exact ⟨(blk_cell (cs := #[.int .i64 p, .int .i64 fr, .int .i64 til, .bool false]) (t := 121) (by repeat (with_reducible first | exact HM0.out | exact M5.out | refine blk_alloc ?_ _ | refine blk_drewN ?_ _ | refine blk_drew ?_)) 0).trans rfl, (blk_cell (cs := #[.int .i64 p, .int .i64 fr, .int .i64 til, .bool false]) (t := 121) (by repeat (with_reducible first | exact HM0.out | exact M5.out | refine blk_alloc ?_ _ | refine blk_drewN ?_ _ | refine blk_drew ?_)) 3).trans rfl⟩
                        clear hK K
                        try simp only [List.getElem_toArray, List.getElem_cons_succ, List.getElem_cons_zero, Act.put, List.setIfInBounds_toArray, List.set_cons_zero, List.set_cons_succ]
                        refine wpAnyH_ready (rs := [20]) (by kernel_rfl) (by simp) ?_
                        refine AllReadyH.cons rfl (fun K hK => ?_) ?_
                        · go_simp
                          first | (go_at_call 94; (with_reducible refine (HNC.out _ _ ?_).mono ?_); (repeat (with_reducible first | exact blk_new _ _ | exact impl_QuickCheck.new2 _ _ _ | refine blk_alloc ?_ _ | refine blk_drewN ?_ _ | refine blk_drew ?_)); rintro e w5 ⟨A5, k5, rfl, HC5, HB5⟩; have M5 : Aside0 (w5.heap[gb]? = some (.cells #[.int .i64 p, .int .i64 fr, .int .i64 til, .bool false] 121 (0, 0))) := ⟨blk_below (by repeat (with_reducible first | exact HM0.out | refine blk_alloc ?_ _ | refine blk_drewN ?_ _ | refine blk_drew ?_)) HB5.out⟩) | (go_at_call 142; (with_reducible refine (impl_QuickCheck.eqC A5 k5 N p _ _ HNL.out ?_ HC5.out.1 ?_).mono ?_); (repeat (first | (with_reducible exact HC5.out.2) | (with_reducible refine Kd.C_alloc ?_ _) | (with_reducible refine Kd.C_drewN ?_ _) | (with_reducible refine Kd.C_drew ?_))); (repeat (with_reducible first | exact blk_new _ _ | exact impl_QuickCheck.new2 _ _ _ | refine blk_alloc ?_ _ | refine blk_drewN ?_ _ | refine blk_drew ?_ | refine blk_below ?_ HB5.out)); rintro e w6 ⟨rfl, ⟨nd6, rfl⟩⟩)
                          first | refine hK.out _ _ ?_ (fun hHeld => ?_) | (go_wp2_with fail; refine hK.out _ _ ?_ (fun hHeld => ?_))
                          · (try dsimp only); exact ⟨(blk_cell (cs := #[.int .i64 p, .int .i64 fr, .int .i64 til, .bool false]) (t := 121) (by repeat (with_reducible first | exact HM0.out | exact M5.out | refine blk_alloc ?_ _ | refine blk_drewN ?_ _ | refine blk_drew ?_)) 0).trans rfl, (blk_cell (cs := #[.int .i64 p, .int .i64 fr, .int .i64 til, .bool false]) (t := 121) (by repeat (with_reducible first | exact HM0.out | exact M5.out | refine blk_alloc ?_ _ | refine blk_drewN ?_ _ | refine blk_drew ?_)) 3).trans rfl⟩
                          clear hK K
                          try simp only [List.getElem_toArray, List.getElem_cons_succ, List.getElem_cons_zero, Act.put, List.setIfInBounds_toArray, List.set_cons_zero, List.set_cons_succ]
                          refine wpAnyH_take (i := 21) (v := ?_) rfl (by kernel_rfl) (by kernel_rfl) (by kernel_rfl) (fun _ _ _ h => h) (Or.inl ⟨by rfl, ?_⟩) (by assumption) ?_
                          rotate_left
                          · intro w hSw; (try dsimp only at hSw); go_simp; try with_reducible rfl
                          try simp only [List.getElem_toArray, List.getElem_cons_succ, List.getElem_cons_zero, Act.put, List.setIfInBounds_toArray, List.set_cons_zero, List.set_cons_succ]
                          refine wpAnyH_take (i := 22) (v := ?_) rfl (by kernel_rfl) (by kernel_rfl) (by kernel_rfl) (fun _ _ _ h => h) (Or.inl ⟨by rfl, ?_⟩) (by assumption) ?_
                          rotate_left
                          · intro w hSw; (try dsimp only at hSw); go_simp; try with_reducible rfl
                          try simp only [List.getElem_toArray, List.getElem_cons_succ, List.getElem_cons_zero, Act.put, List.setIfInBounds_toArray, List.set_cons_zero, List.set_cons_succ]
                          refine wpAnyH_done (by kernel_rfl) ?_ _
                          go_wp2
                          go_meet
                          case rel => exact ⟨by first | rfl | (simp; done), ⟨by repeat (with_reducible first | exact HM0.out | exact M5.out | refine blk_alloc ?_ _ | refine blk_drewN ?_ _ | refine blk_drew ?_)⟩, ⟨by repeat (with_reducible first | exact HO.out | refine Kd.R_alloc ?_ _ | refine Kd.R_drewN ?_ _ | refine Kd.R_drew ?_ | refine Kd.R_below ?_ HB5.out)⟩, ⟨by repeat (with_reducible first | exact HB.out | apply below_alloc | apply pw_below_drewN | apply below_drew1 | refine below_step ?_ HB5.out)⟩⟩
                        exact AllReadyH.nil
                      exact AllReadyH.nil
                    exact AllReadyH.nil
                  exact AllReadyH.nil
                · (first | go_region_held3 (fun w' => w'.cell? ⟨gb, 0, none⟩ = some (.int .i64 p) ∧ w'.cell? ⟨gb, 3, none⟩ = some (.bool false)) (exact ⟨(blk_cell (cs := #[.int .i64 p, .int .i64 fr, .int .i64 til, .bool false]) (t := 121) (by repeat (with_reducible first | exact HM0.out | exact M5.out | refine blk_alloc ?_ _ | refine blk_drewN ?_ _ | refine blk_drew ?_)) 0).trans rfl, (blk_cell (cs := #[.int .i64 p, .int .i64 fr, .int .i64 til, .bool false]) (t := 121) (by repeat (with_reducible first | exact HM0.out | exact M5.out | refine blk_alloc ?_ _ | refine blk_drewN ?_ _ | refine blk_drew ?_)) 3).trans rfl⟩) (first | (go_at_call 94; (with_reducible refine (HNC.out _ _ ?_).mono ?_); (repeat (with_reducible first | exact blk_new _ _ | exact impl_QuickCheck.new2 _ _ _ | refine blk_alloc ?_ _ | refine blk_drewN ?_ _ | refine blk_drew ?_)); rintro e w5 ⟨A5, k5, rfl, HC5, HB5⟩; have M5 : Aside0 (w5.heap[gb]? = some (.cells #[.int .i64 p, .int .i64 fr, .int .i64 til, .bool false] 121 (0, 0))) := ⟨blk_below (by repeat (with_reducible first | exact HM0.out | refine blk_alloc ?_ _ | refine blk_drewN ?_ _ | refine blk_drew ?_)) HB5.out⟩) | (go_at_call 142; (with_reducible refine (impl_QuickCheck.eqC A5 k5 N p _ _ HNL.out ?_ HC5.out.1 ?_).mono ?_); (repeat (first | (with_reducible exact HC5.out.2) | (with_reducible refine Kd.C_alloc ?_ _) | (with_reducible refine Kd.C_drewN ?_ _) | (with_reducible refine Kd.C_drew ?_))); (repeat (with_reducible first | exact blk_new _ _ | exact impl_QuickCheck.new2 _ _ _ | refine blk_alloc ?_ _ | refine blk_drewN ?_ _ | refine blk_drew ?_ | refine blk_below ?_ HB5.out)); rintro e w6 ⟨rfl, ⟨nd6, rfl⟩⟩)) | fail)
                  all_goals go_wp2
                  all_goals go_meet
                  all_goals exact ⟨by first | rfl | (simp; done), ⟨by repeat (with_reducible first | exact HM0.out | exact M5.out | refine blk_alloc ?_ _ | refine blk_drewN ?_ _ | refine blk_drew ?_)⟩, ⟨by repeat (with_reducible first | exact HO.out | refine Kd.R_alloc ?_ _ | refine Kd.R_drewN ?_ _ | refine Kd.R_drew ?_ | refine Kd.R_below ?_ HB5.out)⟩, ⟨by repeat (with_reducible first | exact HB.out | apply below_alloc | apply pw_below_drewN | apply below_drew1 | refine below_step ?_ HB5.out)⟩⟩
              case rest =>
                clear hcase HM0 HO HB HNC HNL k0 kc3
                obtain ⟨rfl, MC, HO, HB⟩ := hcut
                have k0 := (blk_cell (cs := #[.int .i64 p, .int .i64 fr, .int .i64 til, .bool false]) (t := 121) MC.out 0).trans (show (#[.int .i64 p, .int .i64 fr, .int .i64 til, .bool false] : Array Value)[0]? = some (.int .i64 p) from rfl)
                cases hd : decide (N = [p]) with
                | false =>
                  have hr := HQ.out
                  rw [if_pos (.inr (.inr (of_decide_eq_false hd)))] at hr
                  subst hr
                  go_wp2
                  go_ret
                  exact ⟨rfl, (by repeat (with_reducible first | exact HB.out | apply pw_below_drewN | apply below_drew1))⟩
                | true =>
                  have hr := HQ.out
                  rw [if_neg (by rintro (z | z | z); cases z; exact H2.out z; exact z (of_decide_eq_true hd))] at hr
                  have HQ2 := Aside0.mk hr
                  clear hr HQ hd
                  by_cases e : a0 % 2 = 0
                  · have e2 : ((a0 == 2) = true) ∨ ((a0 == 2) = false ∧ (a0 == 4) = true) := by
                      by_cases z : a0 = 2
                      · exact .inl (by simpa using z)
                      · exact .inr ⟨by simpa using z, by simp; omega⟩
                    have E := Aside0.mk e
                    clear e
                    by_cases g : YtiabgmddnddeiaaDoorNrm.second p
                    all_goals
                      have hr := HQ2.out
                      have HS2 := HS.out
                      first
                        | (rw [if_pos ⟨E.out, g⟩] at hr; rw [decide_eq_true g] at HS2)
                        | (rw [if_neg (fun z => g z.2)] at hr; rw [decide_eq_false g] at HS2)
                      have HQ3 := Aside0.mk hr
                      have HS3 := Aside0.mk HS2
                      clear hr HS2 HQ2 g
                      rcases e2 with e3 | ⟨e3, e4⟩
                      all_goals
                        go_wp2_with (go_at_call 143; ((with_reducible refine (HS3.out _).mono ?_); rintro e w7 ⟨rfl, ⟨nd7, rfl⟩⟩))
                        go_roundw
                        case rel => exact ⟨i + 1, _, c, by omega, by go_num, rfl, rfl, HQ3, ⟨(by repeat (with_reducible first | exact HO.out | refine Kd.R_alloc ?_ _ | refine Kd.R_drewN ?_ _ | refine Kd.R_drew ?_ | refine Kd.R_below ?_ HB5.out))⟩, ⟨(by repeat (with_reducible first | exact HB.out | apply pw_below_drewN | apply below_drew1))⟩⟩
                        case measure => simp [intOf]; omega
                  · have hr := HQ2.out
                    rw [if_neg (fun z => e z.1)] at hr
                    have HQ3 := Aside0.mk hr
                    have e3 : (a0 == 2) = false := by simp; omega
                    have e4 : (a0 == 4) = false := by simp; omega
                    clear hr HQ2 e
                    go_wp2
                    go_roundw
                    case rel => exact ⟨i + 1, _, c, by omega, by go_num, rfl, rfl, HQ3, ⟨(by repeat (with_reducible first | exact HO.out | refine Kd.R_alloc ?_ _ | refine Kd.R_drewN ?_ _ | refine Kd.R_drew ?_ | refine Kd.R_below ?_ HB5.out))⟩, ⟨(by repeat (with_reducible first | exact HB.out | apply pw_below_drewN | apply below_drew1))⟩⟩
                    case measure => simp [intOf]; omega
        · have hie : i = R.length := by omega
          have hr := HH.out
          rw [List.drop_eq_nil_of_le (by omega)] at hr
          have hr2 : out = r := hr
          clear hr
          subst hr2
          have HH : True := trivial
          go_wp2
          go_ret
          exact ⟨rfl, HB.out⟩
  · rw [if_neg hs] at h
    cases h

end Go.Proofs.YtiabgmddnddeiaaDoor.QFnQuick
