/- The law FnExactTurnedPasses: at every input the call answers true (this text: contracts on its way, by a program of this session's; no condition of ours). -/
import Derived.Test.YtnonijganceneaaDoorQFnExactTurnedPassesx0
import Derived.Test.YtnonijganceneaaDoorQFnExactTurnedPassesx9
namespace Go.Proofs.YtnonijganceneaaDoor.QFnExactTurnedPasses
open Go.RowKit Go.Proofs.YtnonijganceneaaDoorW.PrintWords Go.Proofs.YtnonijganceneaaDoorW.PrintLast Go.Proofs.YtnonijganceneaaDoorW.PrintMore
attribute [local go_sem] max2_int min2_int max_two min_two max_three min_three max_four min_four   -- for this text's walks alone
set_option linter.unusedVariables false
set_option linter.unusedSimpArgs false

/-! ### laws_markPassS: function 56 (by hand) -/
def laws_markPassS.l0 : Nat → List (S123) → Int → Int → Option (Int × (List (S123)))
  | 0, _, _, _ => none
  | k + 1, x, a, i => if i < (x.length : Int) then (if 0 ≤ i then ((laws_markWriteRuleS.f k (rd_T123 x i).f0 a).bind fun p => (laws_markPassS.l0 k (x.set (i : Int).toNat (⟨p.2, p.1⟩ : S123)) (wrap64 (p.1 + 1)) (wrap64 (i + 1)))) else none) else some (a, x)
def laws_markPassS.f (k : Nat) (l0 : List (S123)) (a1 : Int) : Option (Int × (List (S123))) := laws_markPassS.l0 k l0 a1 0
theorem laws_markPassS.mono_l : ∀ k, (∀ y0 y1 y2, LeO (laws_markPassS.l0 k y0 y1 y2) (laws_markPassS.l0 (k + 1) y0 y1 y2))
  | 0 => fun _ _ _ r h => by simp [laws_markPassS.l0] at h
  | k + 1 => by
    have ih0 := laws_markPassS.mono_l k
    intro y0 y1 y2
    rw [laws_markPassS.l0, laws_markPassS.l0.eq_2 y0 y1 y2 (k + 1)]
    refine LeO.ite (LeO.ite (LeO.bind (laws_markWriteRuleS.mono _ _ _) (fun _ => ih0 _ _ _)) (LeO.none _)) (LeO.refl _)
theorem laws_markPassS.mono : ∀ a0 a1 k, LeO (laws_markPassS.f k a0 a1) (laws_markPassS.f (k + 1) a0 a1) := fun a0 a1 k => laws_markPassS.mono_l k a0 a1 0
theorem laws_markPassS.froz {w w1 : World} {a : Addr} (h : w1.heap[a.block]? = w.heap[a.block]?) : w1.frozen? a = w.frozen? a := by simp [World.frozen?, h]
set_option maxHeartbeats 8000000 in
set_option maxRecDepth 100000 in
theorem laws_markPassS.calls (k : Nat) (P0_ : Nat → Prop) (u9000_ : Value) (l0 : List (S123)) (a1 : Int) (r1 : Int) (r2 : List (S123)) (w0 w : World) (hB : Below w0.heap.size w0 w) (ho0 : Kd.S k123 123 w w0.heap.size P0_ u9000_ l0) (h : laws_markPassS.f k l0 a1 = some (r1, r2)) :
    Calls Tryd.prog 56 #[u9000_, .int .i64 a1] w fun e w' => e = .returned (.int .i64 r1) ∧ Kd.S k123 123 w' w0.heap.size (fun k_ => (P0_ k_ ∨ w.heap.size ≤ k_)) u9000_ r2 ∧ Below w0.heap.size w0 w' ∧ Kept w w' (fun k_ => P0_ k_) := by
  obtain ⟨A, c, rfl⟩ := Kd.S_slice ho0
  have HO0 := Aside0.mk (show Kd.S k123 123 w w0.heap.size (fun k_ => (P0_ k_ ∨ w.heap.size ≤ k_)) (.slice A l0.length c) l0 from Kd.S_mono ho0 (fun k_ hk => (.inl hk)))
  have HB0 := Aside0.mk hB
  have HP := Aside0.mk (fun g_ (hg : (Value.slice A l0.length c).ownBlock = some g_) => (Kd.S_R ho0).1 g_ hg)
  have HH := Aside0.mk h
  clear ho0 hB h
  go_enter Tryd.func56, Tryd.ntmps56
  go_wp2
  go_loopg [1, 5] k (fun kq v1 v5 wr => ∃ (x : List (S123)) (a : Int) (i : Nat), v1 = .int .i64 a ∧ v5 = .int .i64 (i : Int) ∧ i ≤ l0.length ∧ Aside0 (laws_markPassS.l0 kq x a (i : Int) = some (r1, r2)) ∧ Aside0 (kq ≤ k) ∧ Aside0 (x.length = l0.length) ∧ Aside0 (Kd.S k123 123 wr w0.heap.size (fun k_ => (P0_ k_ ∨ w.heap.size ≤ k_)) (.slice A l0.length c) x) ∧ Aside0 (Below w0.heap.size w0 wr) ∧ Aside0 (Kept w wr (fun k_ => P0_ k_)))
  case atStart => exact ⟨l0, a1, 0, rfl, rfl, Nat.zero_le _, HH, ⟨Nat.le_refl _⟩, ⟨rfl⟩, HO0, HB0, ⟨Kept.refl _ _⟩⟩
  case round =>
    obtain ⟨x, a, i, rfl, rfl, hi, HA, HK1, HL, HO, HB, HK⟩ := hrel
    clear HH
    cases gk with
    | zero => exact absurd HA.out (by simp [laws_markPassS.l0])
    | succ k1 =>
      have H := HA.out
      clear HA
      rw [laws_markPassS.l0] at H
      have hmax : l0.length ≤ 9223372036854775807 := by have := Kd.C_max (Kd.S_reads' HO.out).2.2; rw [HL.out] at this; exact this
      by_cases hlt : i < l0.length
      · have i1 : (i : Int) < (x.length : Int) := by rw [HL.out]; omega
        rw [if_pos i1, if_pos (by omega)] at H
        obtain ⟨⟨p1, p2⟩, hp, H⟩ := Option.bind_eq_some_iff.mp H
        obtain ⟨E, hE⟩ : ∃ E, rd_T123 x (i : Int) = E := ⟨_, rfl⟩
        rw [hE] at hp
        have hE' : x.getD (i : Int).toNat z123 = E := hE
        have HPP := Aside0.mk hp
        have H1 := Aside0.mk H
        clear H hp
        obtain ⟨g, cap, hv, hbase, hglt, hgt⟩ := Kd.S_form HO.out (by rw [HL.out]; omega)
        rw [HL.out] at hv
        injection hv with hA _ hc
        subst hA
        subst hc
        have hso := HO.out
        have hrow := (Kd.S_R hso).1 g (by simp [Value.ownBlock])
        obtain ⟨oki, cs, hcl, hM, hcc, hfr, hoki, hH⟩ := Kd.S_elem hso z123 (i : Int) (by omega) (by omega)
        rw [hE'] at hM
        clear hE hE'
        obtain ⟨v0, hcs, hR0⟩ := k123_openM hM
        obtain ⟨A0, c0, hv0⟩ := Kd.R_slice hR0
        subst hv0
        subst hcs
        have e2 : ∀ j : Nat, (i : Int).toNat * k123.sz + j = i * 2 + j := fun j => by rw [Int.toNat_natCast]; rfl
        have hc0 := hcc 0 _ rfl
        have hc1 := hcc 1 _ rfl
        have hf1 := hfr 1
        rw [e2] at hc0 hc1 hf1
        rw [Nat.add_zero] at hc0
        have HR0 := Aside0.mk hR0
        have HHo := Aside0.mk hH
        have HOK := Aside0.mk hoki
        have HC1 := Aside0.mk hc1
        have HF1 := Aside0.mk hf1
        have HROW := Aside0.mk hrow
        clear hso hM hcc hfr hH hoki hcl hR0 e2 hc1 hf1 hrow
        have q1 : decide ((i : Int) < (l0.length : Int)) = true := decide_eq_true (by omega)
        have q2 := eq_true (show (i : Int) < (l0.length : Int) by omega)
        have q3 := eq_true (show (0 : Int) ≤ (i : Int) by omega)
        clear i1
        go_wp2_with (go_at_call 137; ((with_reducible refine (laws_markWriteRuleS.calls k1 oki _ _ a p1 p2 w0 _ HB.out HR0.out HPP.out).mono ?_); rintro e w1 ⟨rfl, hr1, hb1, hk1⟩; have hne := fun z : oki g => (HOK.out g z).2 rfl; have hblk := hk1.2 g hglt hne; have hc1 := cell_kept HC1.out hk1 hne; have hf1 : World.frozen? w1 ⟨g, i * 2 + 1, none⟩ = false := (laws_markPassS.froz (a := ⟨g, i * 2 + 1, none⟩) hblk).trans HF1.out; have R1 := Aside0.mk hr1; have B1 := Aside0.mk hb1; have K1 := Aside0.mk hk1; clear hr1 hb1 hk1 hne hblk))
        go_roundg k1
        case measure => have := HK1.out; omega
        case rel =>
          refine ⟨x.set (i : Int).toNat ⟨p2, p1⟩, wrap64 (p1 + 1), i + 1, rfl, by go_num, by omega, ?_, ⟨by have := HK1.out; omega⟩, ⟨by rw [List.length_set]; exact HL.out⟩, ⟨?_⟩, ⟨?_⟩, ⟨?_⟩⟩
          · have hw : wrap64 ((i : Int) + 1) = ((i + 1 : Nat) : Int) := by unfold wrap64; omega
            have hh := H1.out
            rw [hw] at hh
            exact ⟨hh⟩
          · have hH1 := Kd.H_kept (Kd.H_widen HHo.out) K1.out (fun k_ _ hn hs => hn (.inl hs))
            have hseg := (Kd.H_seg hH1 (by omega) (by omega) (seg := [.int .i64 p1]) (j := 1) (Nat.le_refl 2) (fun q hq => by rw [List.mem_singleton.1 hq]; rfl)).1
            rw [Int.toNat_natCast] at hseg
            refine Kd.H_back hseg (okp := fun k_ => (oki k_ ∨ wr.heap.size ≤ k_) ∧ w0.heap.size ≤ k_) ?_ ?_
            · have hR2 := Kd.R_far (p := ⟨g, i * 2 + 1, none⟩) R1.out (fun k_ hk e_ => by
                rcases hk with hk | hk
                · exact (HOK.out k_ hk).2 e_
                · have : k_ = g := e_
                  omega) (.int .i64 p1)
              have hl := (Kd.R_reads' hR2).1
              have hM2 := k123_mkM _ _ _ (⟨p2, p1⟩ : S123) hR2
              exact k123.M_mono (fun k_ hk => ⟨hk.1, hk.2.1⟩) (k123.M_bound hM2)
            · rintro k_ ⟨hk | hk, hk2⟩
              · exact .inl hk
              · have hz := HK.out.1
                exact .inr ⟨.inr (Nat.le_trans hz hk), hk⟩
          · exact below_set B1.out hbase
          · exact Kept.setCell (Kept.then_ HK.out K1.out (fun k_ hk => (HOK.out k_ hk).1)) HROW.out _
      · rw [if_neg (by rw [HL.out]; omega)] at H
        simp only [Option.some.injEq, Prod.mk.injEq] at H
        obtain ⟨rfl, rfl⟩ := H
        obtain rfl : i = l0.length := by omega
        clear hlt
        go_wp2
        go_ret
        exact ⟨rfl, HO.out, HB.out, HK.out⟩

end Go.Proofs.YtnonijganceneaaDoor.QFnExactTurnedPasses
