/- The law FnExactFeedDecoder: at every input the call answers true (this text: contracts on its way, by a program of this session's; no condition of ours). -/
import Derived.Test.YtnonijganceneaaDoorQFnExactFeedDecoderx0
namespace Go.Proofs.YtnonijganceneaaDoor.QFnExactFeedDecoder
open Go.RowKit Go.Proofs.YtnonijganceneaaDoorW.PrintWords Go.Proofs.YtnonijganceneaaDoorW.PrintLast Go.Proofs.YtnonijganceneaaDoorW.PrintMore
attribute [local go_sem] max2_int min2_int max_two min_two max_three min_three max_four min_four   -- for this text's walks alone
set_option linter.unusedVariables false
set_option linter.unusedSimpArgs false

/-- A reader of bytes at block g of W: its points and its places of broken pieces lie in rows of its own. -/
def IsS100 (w0 W : World) (g : Nat) (f0 : List Int) (f1 : List Int) (f2 : Int) : Prop := ∃ A0 c0 A1 c1, W.heap[g]? = some (.cells #[.slice A0 f0.length c0, .slice A1 f1.length c1, .int .i64 f2] 100 (0, 0)) ∧ w0.heap.size ≤ g ∧ Kd.R (Kd.int .i64) 2 W w0.heap.size (fun k => k ≠ g) (.slice A0 f0.length c0) f0 ∧ Kd.R (Kd.int .i64) 2 W w0.heap.size (fun k => k ≠ g ∧ some k ≠ (Value.slice A0 f0.length c0).ownBlock) (.slice A1 f1.length c1) f1
def Rd (w0 W : World) (g : Nat) (pts brk : List Int) (used : Int) : Prop := ∃ vp vb, W.heap[g]? = some (.cells #[vp, vb, .int .i64 used] 100 (0, 0)) ∧ w0.heap.size ≤ g ∧ Kd.R (Kd.int .i64) 2 W w0.heap.size (fun k => k ≠ g) vp pts ∧ Kd.R (Kd.int .i64) 2 W w0.heap.size (fun k => k ≠ g ∧ some k ≠ vp.ownBlock) vb brk
theorem Rd.below {w0 W W1 : World} {g : Nat} {pts brk : List Int} {used : Int} (h : Rd w0 W g pts brk used) (hb : Below W.heap.size W W1) : Rd w0 W1 g pts brk used := by
  obtain ⟨vp, vb, h1, h2, h3, h4⟩ := h
  exact ⟨vp, vb, blk_below h1 hb, h2, Kd.R_below h3 hb, Kd.R_below h4 hb⟩
theorem Rd.other {W W1 : World} {base g : Nat} {vp vb : Value} {p b : List Int} (h : Kd.R (Kd.int .i64) 2 W base (fun k => k ≠ g) vp p) (hq : Kd.R (Kd.int .i64) 2 W base (fun k => k ≠ g ∧ some k ≠ vp.ownBlock) vb b) (hg : W.grownBy W1 vb.ownBlock) : Kd.R (Kd.int .i64) 2 W1 base (fun k => k ≠ g) vp p := by
  refine Kd.R_of_own (own_other (Kd.own_of_R h) hg ?_) h.1
  cases hv : vp.ownBlock with
  | none => exact .inl rfl
  | some k => exact .inr (fun e => (hq.1 k e.symm).2 hv.symm)
theorem IsS100.rd {w0 W : World} {g : Nat} {f0 f1 : List Int} {f2 : Int} (h : IsS100 w0 W g f0 f1 f2) : Rd w0 W g f0 f1 f2 := by
  obtain ⟨A0, c0, A1, c1, h1, h2, h3, h4⟩ := h
  exact ⟨_, _, h1, h2, h3, h4⟩
theorem Rd.is {w0 W : World} {g : Nat} {f0 f1 : List Int} {f2 : Int} (h : Rd w0 W g f0 f1 f2) : IsS100 w0 W g f0 f1 f2 := by
  obtain ⟨vp, vb, h1, h2, h3, h4⟩ := h
  obtain ⟨A0, c0, rfl⟩ := Kd.R_slice h3
  obtain ⟨A1, c1, rfl⟩ := Kd.R_slice h4
  exact ⟨A0, c0, A1, c1, h1, h2, h3, h4⟩
theorem IsS100.below {w0 W W1 : World} {g : Nat} {f0 f1 : List Int} {f2 : Int} (h : IsS100 w0 W g f0 f1 f2) (hb : Below W.heap.size W W1) : IsS100 w0 W1 g f0 f1 f2 := Rd.is (Rd.below h.rd hb)
theorem IsS100.alloc {w0 W : World} {g : Nat} {f0 f1 : List Int} {f2 : Int} (h : IsS100 w0 W g f0 f1 f2) (o : Obj) : IsS100 w0 (W.alloc o) g f0 f1 f2 := h.below (below_alloc (Below.refl _ _) o)
theorem IsS100.drewN {w0 W : World} {g : Nat} {f0 f1 : List Int} {f2 : Int} (h : IsS100 w0 W g f0 f1 f2) (m : Nat) : IsS100 w0 (W.drewN m) g f0 f1 f2 := h.below (pw_below_drewN (Below.refl _ _) m)
theorem IsS100.drew {w0 W : World} {g : Nat} {f0 f1 : List Int} {f2 : Int} (h : IsS100 w0 W g f0 f1 f2) : IsS100 w0 W.drew g f0 f1 f2 := h.below (below_drew (Below.refl _ _))
theorem IsS100.at_ {w0 W : World} {g : Nat} {f0 f1 : List Int} {f2 : Int} {w' : World} {m : Nat} (hq : W.drewN m = w') (h : IsS100 w0 W g f0 f1 f2) : IsS100 w0 w' g f0 f1 f2 := by subst hq; exact h.drewN m
theorem IsS100.ge {w0 W : World} {g : Nat} {f0 f1 : List Int} {f2 : Int} (h : IsS100 w0 W g f0 f1 f2) : w0.heap.size ≤ g := by
  obtain ⟨vp, vb, h1, h2, h3, h4⟩ := h.rd
  exact h2
theorem IsS100.lt {w0 W : World} {g : Nat} {f0 f1 : List Int} {f2 : Int} (h : IsS100 w0 W g f0 f1 f2) : g < W.heap.size := by
  obtain ⟨vp, vb, h1, h2, h3, h4⟩ := h.rd
  exact blk_lt h1
theorem cellS100_0 {W : World} {g : Nat} {A0 : Option Addr} {c0 : Nat} {A1 : Option Addr} {c1 : Nat} {n0 n1 : Nat} {f2 : Int} (h : W.heap[g]? = some (.cells #[.slice A0 n0 c0, .slice A1 n1 c1, .int .i64 f2] 100 (0, 0))) : W.cell? ⟨g, 0, none⟩ = some (.slice A0 n0 c0) := (blk_cell h 0).trans rfl
theorem cellS100_1 {W : World} {g : Nat} {A0 : Option Addr} {c0 : Nat} {A1 : Option Addr} {c1 : Nat} {n0 n1 : Nat} {f2 : Int} (h : W.heap[g]? = some (.cells #[.slice A0 n0 c0, .slice A1 n1 c1, .int .i64 f2] 100 (0, 0))) : W.cell? ⟨g, 1, none⟩ = some (.slice A1 n1 c1) := (blk_cell h 1).trans rfl
theorem cellS100_2 {W : World} {g : Nat} {A0 : Option Addr} {c0 : Nat} {A1 : Option Addr} {c1 : Nat} {n0 n1 : Nat} {f2 : Int} (h : W.heap[g]? = some (.cells #[.slice A0 n0 c0, .slice A1 n1 c1, .int .i64 f2] 100 (0, 0))) : W.cell? ⟨g, 2, none⟩ = some (.int .i64 f2) := (blk_cell h 2).trans rfl
/-- nothing is told of what else a reader's call leaves as it was -/
def KB100 (_ _ : World) (_ : Nat) (_ : Option Nat) : Prop := True
theorem KB100.refl (w : World) (g : Nat) (row : Option Nat) : KB100 w w g row := trivial
theorem KB100.trans {w w1 w2 : World} {g : Nat} {row row1 : Option Nat} (_ : KB100 w w1 g row) (_ : KB100 w1 w2 g row1) (_ : row1 = row ∨ ∃ b, row1 = some b ∧ w.heap.size ≤ b) : KB100 w w2 g row := trivial
theorem KB100.of_below {w w1 : World} (_ : Below w.heap.size w w1) (g : Nat) (row : Option Nat) : KB100 w w1 g row := trivial
theorem KB100.set_ {w w1 : World} {g : Nat} {row : Option Nat} (_ : KB100 w w1 g row) (j : Nat) (u : Value) : KB100 w (w1.setCell ⟨g, j, none⟩ u) g row := trivial
theorem KB100.drewN {w W : World} {g : Nat} {row : Option Nat} (_ : KB100 w W g row) (m : Nat) : KB100 w (W.drewN m) g row := trivial
theorem KB100.drew {w W : World} {g : Nat} {row : Option Nat} (_ : KB100 w W g row) : KB100 w W.drew g row := trivial
theorem KB100.alloc {w W : World} {g : Nat} {row : Option Nat} (_ : KB100 w W g row) (o : Obj) : KB100 w (W.alloc o) g row := trivial

/-! ### spec_l02Read_point: function 217 (by hand) -/
def spec_l02Read_point.f (p b : List Int) (u a n : Int) : Option (List Int × List Int × Int) := if p.length ≤ 1099511627776 then some (p ++ [a], b, wrap64 (u + n)) else none
set_option maxHeartbeats 2000000 in
set_option maxRecDepth 100000 in
theorem spec_l02Read_point.calls (g : Nat) (p b : List Int) (u a n : Int) (r1 r2 : List Int) (r3 : Int) (w0 w : World) (hI : IsS100 w0 w g p b u) (hB : Below w0.heap.size w0 w) (h : spec_l02Read_point.f p b u a n = some (r1, r2, r3)) :
    Calls Tryd.prog 217 #[.pointer (some ⟨g, 0, none⟩), .int .i64 a, .int .i64 n] w fun e w' => e = .returned (.tuple #[]) ∧ IsS100 w0 w' g r1 r2 r3 ∧ Below w0.heap.size w0 w' ∧ KB100 w w' g none := by
  unfold spec_l02Read_point.f at h
  by_cases hl : p.length ≤ 1099511627776
  · rw [if_pos hl] at h
    simp only [Option.some.injEq, Prod.mk.injEq] at h
    obtain ⟨rfl, rfl, rfl⟩ := h
    obtain ⟨vp, vb, hblk, hge, hP, hQ⟩ := hI.rd
    have k0 := (blk_cell hblk 0).trans rfl
    have hlt := blk_lt hblk
    have HK := Aside0.mk hblk
    have HP := Aside0.mk hP
    have HQ := Aside0.mk hQ
    have HB := Aside0.mk hB
    clear hblk hP hQ hB
    go_enter Tryd.func217, Tryd.ntmps217
    go_wp2_with (first | ((with_reducible refine gate_builtin (b := .append) (xs := #[.tmp 10, .tmp 12]) rfl ?_); at_builtin; refine Kd.R_append (Kd.int .i64) (w0 := w0) w0.heap.size rfl (.tmp 10) (.tmp 12) 25 2 (.int .i64 0) 8 rfl Tryd.underlying25 info2 rfl (by decide) (by omega) vp p a [.int .i64 a] (fun k => k ≠ g) (fun _ => False) rfl rfl ?aP (fun _ hk => hk.elim) ?aF ?aO ?aB ?aS ?aL ?_; (case aP => exact rfl); (case aB => exact HB.out); (case aF => exact fun k hk => by omega); (case aO => exact HP.out); (case aS => exact below_size HB.out); (case aL => omega); intro v1 w1 hp1 hb1 hg1 hat1; obtain ⟨A1, m1, c1, rfl⟩ : ∃ A m c, v1 = .slice A m c := (Kd.R_slice hp1).elim fun A h => h.elim fun c e => ⟨A, _, c, e⟩; have hblk1 := blk_grown HK.out hg1 (Kd.R_away HP.out (fun k hk => hk)); have HQ1 := Aside0.mk (Kd.R_after HQ.out hg1 hat1); have HP1 := Aside0.mk hp1; have HB1 := Aside0.mk hb1; clear hp1 hb1 hg1 hat1 HP HQ HB k0; have k0 : w1.cell? ⟨g, 0, none⟩ = some vp := (blk_cell hblk1 0).trans rfl; have k2 : w1.cell? ⟨g, 2, none⟩ = some (.int .i64 u) := (blk_cell hblk1 2).trans rfl; have z0 := blk_frozen hblk1 0; have z2 := blk_frozen hblk1 2; have HK1 := Aside0.mk hblk1; clear hblk1 HK))
    go_end0
    exact ⟨rfl, Rd.is ⟨_, vb, blk_put (blk_put HK1.out 0 _ rfl) 2 _ rfl, hge, Kd.R_far (Kd.R_far HP1.out (fun k hk => hk) _) (fun k hk => hk) _, Kd.R_far (Kd.R_far HQ1.out (fun k hk => hk.1) _) (fun k hk => hk.1) _⟩, below_set (below_set HB1.out hge) hge, trivial⟩
  · rw [if_neg hl] at h
    cases h

end Go.Proofs.YtnonijganceneaaDoor.QFnExactFeedDecoder
