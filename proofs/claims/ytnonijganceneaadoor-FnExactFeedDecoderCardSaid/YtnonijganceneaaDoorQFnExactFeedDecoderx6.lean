/- The law FnExactFeedDecoder: at every input the call answers true (this text: contracts on its way, by a program of this session's; no condition of ours). -/
import Derived.Test.YtnonijganceneaaDoorQFnExactFeedDecoderx0
import Derived.Test.YtnonijganceneaaDoorQFnExactFeedDecoderx4
namespace Go.Proofs.YtnonijganceneaaDoor.QFnExactFeedDecoder
open Go.RowKit Go.Proofs.YtnonijganceneaaDoorW.PrintWords Go.Proofs.YtnonijganceneaaDoorW.PrintLast Go.Proofs.YtnonijganceneaaDoorW.PrintMore
attribute [local go_sem] max2_int min2_int max_two min_two max_three min_three max_four min_four   -- for this text's walks alone
set_option linter.unusedVariables false
set_option linter.unusedSimpArgs false

/-! ### spec_l02Read_piece: function 219 (by hand) -/
def spec_l02Read_piece.f (p b : List Int) (u n : Int) : Option (List Int × List Int × Int) := if p.length ≤ 1099511627776 ∧ b.length ≤ 1099511627776 then some (p ++ [65533], b ++ [u], wrap64 (u + n)) else none
set_option maxHeartbeats 2000000 in
set_option maxRecDepth 100000 in
theorem spec_l02Read_piece.calls (g : Nat) (p b : List Int) (u n : Int) (r1 r2 : List Int) (r3 : Int) (w0 w : World) (hI : IsS100 w0 w g p b u) (hB : Below w0.heap.size w0 w) (h : spec_l02Read_piece.f p b u n = some (r1, r2, r3)) :
    Calls Tryd.prog 219 #[.pointer (some ⟨g, 0, none⟩), .int .i64 n] w fun e w' => e = .returned (.tuple #[]) ∧ IsS100 w0 w' g r1 r2 r3 ∧ Below w0.heap.size w0 w' ∧ KB100 w w' g none := by
  unfold spec_l02Read_piece.f at h
  by_cases hl : p.length ≤ 1099511627776 ∧ b.length ≤ 1099511627776
  · rw [if_pos hl] at h
    simp only [Option.some.injEq, Prod.mk.injEq] at h
    obtain ⟨rfl, rfl, rfl⟩ := h
    obtain ⟨hl, hl2⟩ := hl
    obtain ⟨vp, vb, hblk, hge, hP, hQ⟩ := hI.rd
    have k1 : w.cell? ⟨g, 1, none⟩ = some vb := (blk_cell hblk 1).trans rfl
    have k2 : w.cell? ⟨g, 2, none⟩ = some (.int .i64 u) := (blk_cell hblk 2).trans rfl
    have hlt := blk_lt hblk
    have HK := Aside0.mk hblk
    have HP := Aside0.mk hP
    have HQ := Aside0.mk hQ
    have HB := Aside0.mk hB
    clear hblk hP hQ hB
    go_enter Tryd.func219, Tryd.ntmps219
    go_wp2_with fail
    go_region_law
      ((refine Kd.R_append_step (Kd.int .i64) (W := w.drew) (w0 := w0) w0.heap.size (by rfl) (.tmp 8) (.tmp 13) 25 2 (.int .i64 0) 8 (by rfl) Tryd.underlying25 info2 rfl (by decide) (by omega) vb b u [.int .i64 u] (fun k => k ≠ g ∧ some k ≠ vp.ownBlock) (fun _ => False) (by rfl) (by rfl) ?aP (fun _ hk => hk.elim) ?aF ?aO ?aB ?aS ?aL ?_; (case aP => exact rfl); (case aB => exact below_drew1 HB.out); (case aF => exact fun k hk => ⟨by simp at hk; omega, fun e => by have := Kd.R_lt HP.out k e.symm; simp at hk; omega⟩); (case aO => exact Kd.R_drew HQ.out); (case aS => exact HB.out.size); (case aL => omega); intro v1 w1 hp1 hb1 hg1 hat1; obtain ⟨A1, m1, c1, rfl⟩ : ∃ A m c, v1 = .slice A m c := (Kd.R_slice hp1).elim fun A h => h.elim fun c e => ⟨A, _, c, e⟩; have hblk1 := blk_grown (blk_drew HK.out) hg1 (Kd.R_away HQ.out (fun k hk => hk.1)); have HQ1 := Aside0.mk hp1; have HB1 := Aside0.mk hb1; have HP1 := Aside0.mk (Rd.other (Kd.R_drew HP.out) (Kd.R_drew HQ.out) hg1); clear hp1 hb1 hg1 hat1; have k1' : w1.cell? ⟨g, 1, none⟩ = some vb := (blk_cell hblk1 1).trans rfl; have k2' : w1.cell? ⟨g, 2, none⟩ = some (.int .i64 u) := (blk_cell hblk1 2).trans rfl; have z1 := blk_frozen hblk1 1; have HK1 := Aside0.mk hblk1; clear hblk1))
    all_goals
      go_wp2_with (first | (go_at_call 217; refine (spec_l02Read_point.calls g p (b ++ [u]) u 65533 n (p ++ [65533]) (b ++ [u]) (wrap64 (u + n)) w0 _ ?hI ?hB ?hf).mono ?_; (case hI => exact Rd.is ⟨vp, _, blk_put HK1.out 1 _ rfl, hge, Kd.R_far HP1.out (fun k hk => hk) _, Kd.R_far HQ1.out (fun k hk => hk.1) _⟩); (case hB => exact below_set HB1.out hge); (case hf => exact if_pos hl); rintro e w2 ⟨rfl, hI2, hB2, _⟩; have HI2 := Aside0.mk hI2; have HB2 := Aside0.mk hB2; clear hI2 hB2))
      go_end0
      exact ⟨rfl, HI2.out, HB2.out, trivial⟩
  · rw [if_neg hl] at h
    cases h

end Go.Proofs.YtnonijganceneaaDoor.QFnExactFeedDecoder
