/- The law FnExactTurnedPasses: at every input the call answers true (this text: contracts on its way, by a program of this session's; no condition of ours). -/
import Derived.Test.YtnonijganceneaaDoorRows
import Derived.Test.YtnonijganceneaaDoorQFnExactTurnedPassesx12
import Derived.Test.YtnonijganceneaaDoorPureFnExactTurnedPasses
import Derived.WalkKit
import Derived.Test.YtnonijganceneaaDoorTie
import Derived.Test.YtnonijganceneaaDoorCards
import Derived.LaidMore
import Derived.Lay
import Derived.SevenTiedAt
import Derived.Stop.Joined
import Derived.PinnedBridge
import Derived.Lib.LaidU8
import Derived.Test.YtnonijganceneaaDoorShelf
import Derived.ProofKit
import Derived.OpenShut
import Derived.Lib.SmallJoins
import Derived.ShutString
import Derived.ChangeOld
import Derived.Below
import Derived.SizedLaws
namespace Go.Proofs.YtnonijganceneaaDoor.fnExactTurnedPasses
open Go.ChangeShapes Go.WideShapes Go.ChangeAt Go.RowKit
open Go.ChangeMaps (open_string shut_string)
set_option linter.unusedVariables false
theorem own : ownKnob Tryd.prog.godebug = none := by kernel_rfl
theorem extra : U8Extra Tryd.prog Tryd.lays260_ren := ⟨by kernel_rfl, by kernel_rfl, by kernel_rfl, by kernel_rfl, by kernel_rfl, by kernel_rfl, by kernel_rfl⟩
theorem acc_eq : (Rows.laid_unicode_utf8_acceptRanges : DataW Unit) = Lib.acceptData := by kernel_rfl
theorem tabs {W : World} (h : laidMetH Tryd.prog Rows.fnExactTurnedPassesRow.laid W) : QFnExactTurnedPasses.GT W := by
  rw [MakeChecks.laidMetH_plain _ _ _ (by kernel_rfl)] at h
  have h3 := Lib.laidMet.reads h (n := "unicode/utf8.first") (d := Lib.firstData) (by rw [← Pinned.utf8First_eq]; simp [Rows.fnExactTurnedPassesRow, Rows.laid_unicode_utf8_first])
  have h4 := Lib.laidMet.reads h (n := "unicode/utf8.acceptRanges") (d := Lib.acceptData) (by rw [← acc_eq]; simp [Rows.fnExactTurnedPassesRow])
  exact utf8Tabs_of_reads Tryd.lays260 extra h3 h4
section
open Go.Deep QFnExactTurnedPasses Go.Proofs.YtnonijganceneaaDoorW.PrintWords
variable {H : Type} {enc : TypeId × Value → H} {w : World} {base : Nat} {spare : Nat → Bool} {held : Bool}
theorem list_of {α : Type} {Q : Nat → α → Prop} : ∀ (n : Nat), (∀ i, i < n → ∃ x, Q i x) → ∃ L : List α, L.length = n ∧ ∀ i x, L[i]? = some x → Q i x
  | 0, _ => ⟨[], rfl, fun i x h => by simp at h⟩
  | n + 1, h => by
    obtain ⟨L, hl, hq⟩ := list_of n (fun i hi => h i (by omega))
    obtain ⟨x, hx⟩ := h n (by omega)
    refine ⟨L ++ [x], by simp [hl], fun i y hy => ?_⟩
    by_cases c : i < n
    · rw [List.getElem?_append_left (by omega)] at hy
      exact hq i y hy
    · rw [List.getElem?_append_right (by omega)] at hy
      have e : i = n := by
        by_cases g : i - L.length = 0
        · omega
        · rw [List.getElem?_eq_none (by simp; omega)] at hy
          cases hy
      subst e
      rw [hl, Nat.sub_self] at hy
      have : x = y := by simpa using hy
      rw [← this]; exact hx
theorem open_row {α : Type} (d : Kd α) (good : α → Prop) {t e : TypeId} (ht : Tryd.prog.underlying t = some (.slice e)) (hC : Tryd.prog.cellsOf e = d.sz)
    (elem : ∀ {n : Nat} {cs : List Value} {y : DataW H × List MemPlace}, DataW.trod enc Tryd.prog w base spare held n e cs = some y → ∃ x : α, d.K w x cs ∧ good x)
    {fuel : Nat} {cs : List Value} {x : DataW H × List MemPlace} (h : DataW.trod enc Tryd.prog w base spare held fuel t cs = some x) :
    ∃ (A : Option Addr) (c : Nat) (L : List α), cs = [.slice A L.length c] ∧ L.length ≤ c ∧ c ≤ maxLen ∧ d.C w A L.length L ∧ ∀ x ∈ L, good x := by
  rcases open_slice ht h with ⟨hcs, _⟩ | ⟨a, len, cap, m, n, Dt, Pl, hcs, hb, hl, hm, hmm, hx, hall⟩
  · exact ⟨none, 0, [], hcs, Nat.le_refl _, Nat.zero_le _, ⟨rfl, Nat.zero_le _, fun z => absurd z (Nat.lt_irrefl 0)⟩, fun x hx => by cases hx⟩
  · have hlm : len ≤ m := by rw [hmm]; split <;> omega
    obtain ⟨L, hL, hq⟩ := list_of (α := α) (Q := fun i x => good x ∧ ∃ cs', d.K w x cs' ∧ w.cells? base (a.add (i * d.sz)) d.sz = some cs') len (fun i hi => by
      obtain ⟨cs', h1, h2⟩ := hall i (by omega)
      obtain ⟨x, hK, hg⟩ := elem h2
      rw [hC] at h1
      exact ⟨x, hg, cs', hK, h1⟩)
    subst hL
    have hM : maxLen = 9223372036854775807 := rfl
    refine ⟨some a, cap, L, hcs, hl, hm, ⟨rfl, by omega, fun _ => ⟨a, rfl, fun j p hp => ?_⟩⟩, fun x hx => ?_⟩
    · obtain ⟨_, cs', hK, hc⟩ := hq j p hp
      obtain ⟨_, hlen, hcell⟩ := World.cells?_some hc
      refine ⟨cs', d.K_len hK, hK, fun i u hu => ?_⟩
      have hi : i < d.sz := by
        by_cases g : i < d.sz
        · exact g
        · rw [List.getElem?_eq_none (by rw [d.K_len hK]; omega)] at hu; cases hu
      have := hcell i hi
      rw [hu, Addr.add_add] at this
      exact this
    · obtain ⟨j, hj, rfl⟩ := List.getElem_of_mem hx
      exact (hq j _ (List.getElem?_eq_getElem hj)).1
theorem list2 {β : Type} : ∀ {l : List β}, l.length = 2 → ∃ a b, l = [a, b]
  | [a, b], _ => ⟨a, b, rfl⟩
theorem list5 {β : Type} : ∀ {l : List β}, l.length = 5 → ∃ a b c d e, l = [a, b, c, d, e]
  | [a, b, c, d, e], _ => ⟨a, b, c, d, e, rfl⟩
theorem rule_of {n : Nat} {cs : List Value} {y : DataW H × List MemPlace} (h : DataW.trod enc Tryd.prog w base spare held n 208 cs = some y) : ∃ x : S208, k208.K w x cs ∧ Pure.Pass.big x := by
  obtain ⟨xs, m, _, _, hl, hx, hf⟩ := DataW.trod_struct Tryd.underlying208 h
  have hC : Tryd.prog.cellsOf 208 = 5 := by kernel_rfl
  have h9 : Tryd.prog.cellsOf 9 = 1 := by kernel_rfl
  have h2 : Tryd.prog.cellsOf 2 = 1 := by kernel_rfl
  have hM : maxLen = 9223372036854775807 := rfl
  rw [hC] at hl
  obtain ⟨c0, c1, c2, c3, c4, rfl⟩ := list5 hl
  obtain ⟨y0, y1, y2, y3, y4, rfl⟩ := list5 (show xs.length = 5 from hx)
  obtain ⟨s0, e0, _, z0⟩ := DataW.trod_string Tryd.underlying9 (hf 0 _ rfl)
  obtain ⟨s1, e1, _, z1⟩ := DataW.trod_string Tryd.underlying9 (hf 1 _ rfl)
  obtain ⟨s2, e2, _, z2⟩ := DataW.trod_string Tryd.underlying9 (hf 2 _ rfl)
  obtain ⟨s3, e3, _, z3⟩ := DataW.trod_string Tryd.underlying9 (hf 3 _ rfl)
  obtain ⟨n4, e4, _, _⟩ := DataW.trod_int Tryd.underlying2 (hf 4 _ rfl)
  obtain rfl : c0 = .string s0 := by simpa [h9] using e0
  obtain rfl : c1 = .string s1 := by simpa [h9] using e1
  obtain rfl : c2 = .string s2 := by simpa [h9] using e2
  obtain rfl : c3 = .string s3 := by simpa [h9] using e3
  obtain rfl : c4 = .int .i64 n4 := by simpa [h2] using e4
  exact ⟨⟨s0, s1, s2, s3, n4⟩, k208_mk w ⟨s0, s1, s2, s3, n4⟩, by rw [hM] at z0 z1 z2 z3; exact ⟨z0, z1, z2, z3⟩⟩
def goodPass (p : S117) : Prop := p.f0.length ≤ 9223372036854775807 ∧ ∀ x ∈ p.f0, Pure.Pass.big x
theorem pass_of {n : Nat} {cs : List Value} {y : DataW H × List MemPlace} (h : DataW.trod enc Tryd.prog w base spare held n 117 cs = some y) : ∃ x : S117, k117.K w x cs ∧ goodPass x := by
  obtain ⟨xs, m, _, _, hl, hx, hf⟩ := DataW.trod_struct Tryd.underlying117 h
  have hC : Tryd.prog.cellsOf 117 = 2 := by kernel_rfl
  have h6 : Tryd.prog.cellsOf 115 = 1 := by kernel_rfl
  have h2 : Tryd.prog.cellsOf 2 = 1 := by kernel_rfl
  have hM : maxLen = 9223372036854775807 := rfl
  rw [hC] at hl
  obtain ⟨c0, c1, rfl⟩ := list2 hl
  obtain ⟨y0, y1, rfl⟩ := list2 (show xs.length = 2 from hx)
  obtain ⟨A, c, L, e0, hlc, hcm, hLC, hg⟩ := open_row k208 Pure.Pass.big Tryd.underlying115 (by kernel_rfl) rule_of (hf 0 _ rfl)
  obtain ⟨n1, e1, _, _⟩ := DataW.trod_int Tryd.underlying2 (hf 1 _ rfl)
  obtain rfl : c0 = .slice A L.length c := by simpa [h6] using e0
  obtain rfl : c1 = .int .i64 n1 := by simpa [h2] using e1
  exact ⟨⟨L, n1⟩, k117_mk w ⟨L, n1⟩ hlc hLC, by rw [hM] at hcm; exact Nat.le_trans hlc hcm, hg⟩
end
theorem laidOut : laidOutB Tryd.prog = true := by kernel_rfl
set_option maxRecDepth 100000 in
theorem lifted (os : Os) (started : os.Started) (H : Type) (enc : TypeId × Value → H) :
    ReturnsInHanded {} Tryd.checked os 8 .any (fun w args => (Rows.fnExactTurnedPassesSpec.pre enc Tryd.prog Tryd.f8 [] false w args ∧ laidMetH Tryd.prog Rows.fnExactTurnedPassesRow.laid w) ∧ sizedMet enc Tryd.prog Tryd.f8 (OpenSpec.ofChange Rows.fnExactTurnedPassesSpec) false w args)
      (Rows.fnExactTurnedPassesSpec.post enc Tryd.prog Tryd.f8 false true false false) := by
  refine returnsInHanded_of_change_and (C := Tryd.checked) (X := fun w _ => laidMetH Tryd.prog Rows.fnExactTurnedPassesRow.laid w) (fun _ _ _ hh h => h.of_heap hh) own started (by kernel_rfl) Tryd.func8
    (ChangeSpec.witness_shaped (enc := enc) (C := Tryd.checked) (os := os) (X := fun w _ => laidMetH Tryd.prog Rows.fnExactTurnedPassesRow.laid w) false (World.laidAll Tryd.prog os Rows.fnExactTurnedPassesRow.laid) #[.slice none 0 0] 8 (World.laidAll_os _ _ _)
      (World.shaped_of_ZipB (by kernel_rfl) (by kernel_rfl)) (by kernel_rfl) (by kernel_rfl) (by kernel_rfl)
      (by rw [MakeChecks.laidMetH_plain _ _ _ (by kernel_rfl)]; exact laidMet_laidAll _ (by kernel_rfl) (by kernel_rfl))) ?_
  intro W base args ds gs before hval0 hW hcnd hsz0 hL _
  have hsz : (DataW.weightsEach Tryd.prog (Tryd.f8.params.toList ++ Rows.fnExactTurnedPassesSpec.plain.varTypes Tryd.prog) (ds ++ gs)).all (· ≤ reachBytes) = true := hsz0
  have hval : ∀ (j : Nat) t v, Tryd.f8.params[j]? = some t → args[j]? = some v → Value.okWide Tryd.prog W .any base t v := hval0
  have hW' := hW
  obtain ⟨p, q, hA0, hV, rfl, hfz, hnd⟩ := hW
  have hA : DataW.TrodAll enc Tryd.prog W 0 (fun _ => true) true Tryd.f8.params.toList args.toList ds p := hA0
  rw [Tryd.params8] at hA hval hsz
  obtain ⟨v0, vs0, d0, ds0, p0, q0, hargs, rfl, rfl, h0, r0⟩ := trodAll_cons hA
  obtain ⟨rfl, rfl, rfl⟩ := trodAll_nil r0
  obtain rfl : args = #[v0] := by cases args; simp_all
  obtain ⟨rfl, rfl⟩ := trodVars_none hV
  obtain ⟨a0, len0, cap0, rfl⟩ := okWide_slice Tryd.underlying57 (hval 0 57 v0 rfl rfl)
  have k0 := h0
  have lt0 : ∀ x ∈ p0, x.block < W.heap.size := by obtain ⟨m, hm⟩ := k0; exact DataW.trod_lt m _ _ _ hm
  obtain ⟨fuel, hf⟩ := h0
  obtain ⟨A, c, L, hcs, hlc, hcm, hLC, hg⟩ := open_row QFnExactTurnedPasses.k117 goodPass Tryd.underlying57 (by kernel_rfl) pass_of hf
  simp [Value.cells] at hcs
  obtain ⟨rfl, rfl, rfl⟩ := hcs
  clear hA0 hval0 hsz0 hsz
  have hM : maxLen = 9223372036854775807 := rfl
  obtain ⟨k, hk⟩ := Pure.FnExactTurnedPasses L ⟨by rw [hM] at hcm; exact Nat.le_trans hlc hcm, hg⟩
  refine (QFnExactTurnedPasses.laws_FnExactTurnedPasses.calls k _ _ L W hLC hlc hk (tabs hL)).mono fun e W' ⟨he, bel⟩ => ?_
  subst he
  exact ⟨_, rfl, _, _, _, [], _, [], hW', trodAll_mk1 (shut_bool Tryd.underlying4 _), (trodAll_cons_mk (Below.trod laidOut (by kernel_rfl) (of_decide_eq_true (by kernel_rfl)) k0 bel lt0) trodAll_mk0), rfl, bel.frame _, fun h => by cases h⟩
theorem over : Rows.fnExactTurnedPassesRow.holds Tryd.pinned (OpenSpec.ofChange Rows.fnExactTurnedPassesSpec) :=
  OpenClaim.holds_of_wide 8 Tryd.f8 rfl rfl rfl rfl rfl rfl rfl ⟨rfl, rfl, rfl, rfl, rfl⟩ rfl rfl rfl rfl rfl (by kernel_rfl) Tryd.func8 (by kernel_rfl)
    (of_decide_eq_true (by kernel_rfl)) (by unfold Func.isWrapper; first | (rw [if_pos (by decide +kernel)]; kernel_rfl) | (rw [if_neg (by decide +kernel)]; exact ⟨rfl, rfl⟩))
    (fun os started H enc _ => lifted os started H enc)
set_option maxRecDepth 100000 in
theorem proved : Rows.FnExactTurnedPassesCardSaid :=
  Claim7.holds_tied_plain_at .later [] [.data, .pinned] true (true, "25887f1a0cd299e231a0a7159ac4545bc96c8a321aee80b8e5a6c38b89e28b16") false over (fun _ h => by cases h) (by kernel_rfl) (fun _ h => by cases h) fnExactTurnedPasses_row_tie rfl ⟨rfl, rfl⟩ (by kernel_rfl) rfl
    (fun f fn hf hfn => by
      obtain rfl : f = 8 := Option.some.inj ((show Tryd.prog.funcNamed "loop.example/g00044/laws.FnExactTurnedPasses" = some 8 by kernel_rfl).symm.trans hf) |>.symm
      obtain rfl : fn = Tryd.f8 := (Option.some.inj (Tryd.func8.symm.trans hfn)).symm
      exact ⟨by kernel_rfl, fun j t ht => by
        rw [Tryd.params8] at ht
        have hm : t ∈ [57] := by simpa using Array.mem_of_getElem? ht
        have hall : ([57].all fun u => !Tryd.prog.wantsStandIn u) = true := by kernel_rfl
        exact (show Tryd.prog.wantsStandIn t = false by simpa using List.all_eq_true.1 hall t hm)⟩)
    (by kernel_rfl)
#print axioms proved
end Go.Proofs.YtnonijganceneaaDoor.fnExactTurnedPasses
namespace Go.Proofs.YtnonijganceneaaDoor
/-- The row, under a short name, for the claim. -/
theorem fnExactTurnedPasses_holds : Rows.FnExactTurnedPassesCardSaid := fnExactTurnedPasses.proved
end Go.Proofs.YtnonijganceneaaDoor
