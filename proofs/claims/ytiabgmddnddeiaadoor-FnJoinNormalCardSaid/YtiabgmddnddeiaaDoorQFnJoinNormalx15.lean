/- The law FnJoinNormal: at every input the call answers true (this text: contracts on its way, by a program of this session's; no condition of ours). -/
import Derived.Test.YtiabgmddnddeiaaDoorQFnJoinNormalx0
import Derived.Test.YtiabgmddnddeiaaDoorQFnJoinNormalx13
import Derived.Test.YtiabgmddnddeiaaDoorQFnJoinNormalx14
import Derived.Test.YtiabgmddnddeiaaDoorQFnJoinNormalx9150
import Derived.Test.YtiabgmddnddeiaaDoorQFnJoinNormalx9151
import Derived.Test.YtiabgmddnddeiaaDoorQFnJoinNormalx9152
namespace Go.Proofs.YtiabgmddnddeiaaDoor.QFnJoinNormal
open Go.RowKit Go.Proofs.YtiabgmddnddeiaaDoorW.PrintWords Go.Proofs.YtiabgmddnddeiaaDoorW.PrintLast Go.Proofs.YtiabgmddnddeiaaDoorW.PrintMore
attribute [local go_sem] max2_int min2_int max_two min_two max_three min_three max_four min_four   -- for this text's walks alone
set_option linter.unusedVariables false
set_option linter.unusedSimpArgs false
theorem spec_l01Src_point.calls (k : Nat) (g : Nat) (s0_0 : List Int) (s0_1 : Int) (s0_2 : Int) (s0_3 : Int) (r1 : Int) (r2 : Int) (r3 : Int) (r4 : Int) (w0 w : World) (hI : IsS134 w0 w g s0_0 s0_1 s0_2 s0_3) (hB : Below w0.heap.size w0 w) (h : spec_l01Src_point.f k s0_0 s0_1 s0_2 s0_3 = some (r1, r2, r3, r4)) :
  Calls Tryd.prog 179 #[.pointer (some ⟨g, 0, none⟩)] w fun e w' => e = .returned (.int .i64 r1) ∧ IsS134 w0 w' g s0_0 r2 r3 r4 ∧ Below w0.heap.size w0 w' ∧ KeepBut w w' g none := by
 cases hd : spec_l01Src_n.f s0_0 s0_1 s0_2 s0_3 24 with
 | none => unfold spec_l01Src_point.f at h; rw [hd] at h; cases h
 | some p_ =>
  have hx : ∀ x_ y_, spec_l01Src_n.f s0_0 s0_1 s0_2 s0_3 24 = some (x_, y_) → x_ = p_.1 := fun x_ y_ e_ => by rw [hd] at e_; rw [Option.some.inj e_]
  by_cases c0 : p_.1 < 7
  ·exact spec_l01Src_point.calls_0 k g s0_0 s0_1 s0_2 s0_3 r1 r2 r3 r4 w0 w hI hB h (fun x_ y_ e_ => by have := hx _ _ e_; omega)
  by_cases c1 : p_.1 < 17
  ·exact spec_l01Src_point.calls_1 k g s0_0 s0_1 s0_2 s0_3 r1 r2 r3 r4 w0 w hI hB h (fun x_ y_ e_ => by have := hx _ _ e_; omega)
  exact spec_l01Src_point.calls_2 k g s0_0 s0_1 s0_2 s0_3 r1 r2 r3 r4 w0 w hI hB h (fun x_ y_ e_ => by have := hx _ _ e_; omega)

set_option maxHeartbeats 8000000 in
theorem spec_l01Src_point.tot (k : Nat) (l : List Int) (a m z : Int) (hl : l.length ≤ 140737488355328) (h0 : 0 ≤ a) (h1 : a ≤ (l.length : Int)) :
    YtiabgmddnddeiaaDoorPts.Tot (spec_l01Src_point.f (k + 9) l a m z) (fun r => 0 ≤ r.2.1 ∧ r.2.1 ≤ (l.length : Int) ∧ r.2.2.2 = z) := by
  unfold spec_l01Src_point.f
  refine YtiabgmddnddeiaaDoorPts.Tot.bind (spec_l01Src_n.tot l a m z 24 hl h0 h1 (by decide)) ?_
  rintro ⟨v, a1, m1, z1⟩ ⟨h2, h3, h4, h5, h6⟩
  dsimp only at h2 h3 h4 h5 h6 ⊢
  subst h6
  clear h0 h1
  have leaf : ∀ (b c d e : Int), 0 ≤ c ∧ c ≤ (l.length : Int) ∧ e = z1 → YtiabgmddnddeiaaDoorPts.Tot (some (b, c, d, e)) (fun r : Int × Int × Int × Int => 0 ≤ r.2.1 ∧ r.2.1 ≤ (l.length : Int) ∧ r.2.2.2 = z1) := fun _ _ _ _ h => YtiabgmddnddeiaaDoorPts.Tot.mk h
  repeat' first
    | exact leaf _ _ _ _ ⟨by assumption, by assumption, rfl⟩
    | (refine YtiabgmddnddeiaaDoorPts.Tot.bind (spec_l01Src_n.tot l _ _ _ _ hl (by assumption) (by assumption) (by decide)) ?_; rintro ⟨w, aw, mw, zw⟩ ⟨q1, q2, q3, q4, q5⟩; dsimp only at q1 q2 q3 q4 q5 ⊢; subst q5)
    | (rw [Option.bind_some]; dsimp only [List.length_cons, List.length_nil])
    | (refine YtiabgmddnddeiaaDoorPts.Tot.ite (fun hc => ?_) (fun hc => ?_))
    | (simp only [spec_l01Src_point.j0])
    | (simp only [spec_l01Src_point.j1])
    | (simp only [spec_l01Src_point.j2])
    | (simp only [spec_l01Src_point.j3])
    | (simp only [spec_l01Src_point.j4])
    | (exfalso; omega)

end Go.Proofs.YtiabgmddnddeiaaDoor.QFnJoinNormal
