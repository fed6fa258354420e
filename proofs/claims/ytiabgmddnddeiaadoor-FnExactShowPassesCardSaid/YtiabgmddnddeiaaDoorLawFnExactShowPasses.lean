/- The law FnExactShowPasses: at every input the call answers true (this text: contracts on its way, by a program of this session's; no condition of ours). -/
import Derived.Test.YtiabgmddnddeiaaDoorRows
import Derived.Test.YtiabgmddnddeiaaDoorQFnExactShowPassesx12
import Derived.Test.YtiabgmddnddeiaaDoorPureFnExactShowPasses
import Derived.WalkKit
import Derived.Test.YtiabgmddnddeiaaDoorTie
import Derived.Test.YtiabgmddnddeiaaDoorCards
import Derived.LaidMore
import Derived.Lay
import Derived.SevenTiedAt
import Derived.Stop.Joined
import Derived.PinnedBridge
import Derived.Lib.LaidU8
import Derived.Test.YtiabgmddnddeiaaDoorShelf
import Derived.ProofKit
import Derived.OpenShut
import Derived.OpenVars
import Derived.ChangeVars
import Derived.Lib.SmallJoins
import Derived.ShutString
import Derived.ChangeOld
import Derived.Below
import Derived.SizedLaws
namespace Go.Proofs.YtiabgmddnddeiaaDoor.fnExactShowPasses
open Go.ChangeShapes Go.WideShapes Go.ChangeAt Go.RowKit
open Go.ChangeMaps (open_string shut_string)
set_option linter.unusedVariables false
theorem own : ownKnob Tryd.prog.godebug = none := by kernel_rfl
theorem extra : U8Extra Tryd.prog Tryd.lays260_ren := ⟨by kernel_rfl, by kernel_rfl, by kernel_rfl, by kernel_rfl, by kernel_rfl, by kernel_rfl, by kernel_rfl⟩
theorem acc_eq : (Rows.laid_unicode_utf8_acceptRanges : DataW Unit) = Lib.acceptData := by kernel_rfl
theorem names_of {W : World} (h : Lib.VarReads Tryd.prog W "loop.example/g00044/impl.normNames" Rows.laid_loop_example_g00044_impl_normNames) : QFnExactShowPasses.Nms W := by
  obtain ⟨g, t, cs, fuel, p, hg, hty, hvar, hd⟩ := h
  obtain rfl : g = 0 := Option.some.inj (hg.symm.trans (show Tryd.prog.globalNamed "loop.example/g00044/impl.normNames" = some 0 by kernel_rfl))
  obtain rfl : t = 54 := Option.some.inj (hty.symm.trans (show (Tryd.prog.globals[0]?).map (·.type) = some 54 by kernel_rfl))
  have hc : Tryd.prog.cellsOf 9 = 1 := by kernel_rfl
  rcases DataW.trod_slice Tryd.underlying54 hd with ⟨_, hx⟩ | ⟨a, len, cap, el, rs, m, rfl, hcs, hx, _, hlc, _, hel, helem, hsp, _⟩
  · cases hx
  have e0 := congrArg Prod.fst hx
  simp only [Rows.laid_loop_example_g00044_impl_normNames, DataW.slice.injEq] at e0
  obtain ⟨eE, eR⟩ := e0
  have hlen : len = 5 := by
    have := congrArg List.length eE
    simp at this
    omega
  subst hlen
  have hcell : ∀ (i : Nat) (l : List UInt8), i < 5 → (el.map (·.1))[i]? = some (.lit (.string l)) → W.cell? (a.add i) = some (.string ⟨l.toArray⟩) := by
    intro i l hi hl
    have h1 := helem i hi
    rw [hc] at h1
    obtain ⟨b, hb⟩ : ∃ b, el[i]? = some b := ⟨el[i]'(by omega), List.getElem?_eq_getElem (by omega)⟩
    rw [hb] at h1
    obtain ⟨ce, hce, hte⟩ := Option.bind_eq_some_iff.1 h1
    obtain ⟨s, hs, hbs, _⟩ := DataW.trod_string Tryd.underlying9 hte
    rw [List.getElem?_map, hb] at hl
    have hl2 : b.1 = .lit (.string l) := Option.some.inj hl
    rw [hbs] at hl2
    have hl3 : s.data.toList = l := by
      simp only [DataW.lit.injEq, Lit.string.injEq] at hl2
      exact hl2
    obtain ⟨_, _, hcc⟩ := World.cells?_some hce
    have h2 := hcc 0 (by omega)
    rw [hs, Nat.mul_one] at h2
    have e1 : (a.add i).add 0 = a.add i := by simp [Addr.add]
    rw [e1] at h2
    rw [h2, ← hl3]
    rfl
  rw [← eE] at hcell
  refine ⟨a, cap, ?_, ?_⟩
  · rw [World.var?_cell (show Tryd.prog.globalNamed "loop.example/g00044/impl.normNames" = some 0 by kernel_rfl) hvar 0, ← Array.getElem?_toList, hcs]
    rfl
  · intro i hi
    have c : i = 0 ∨ i = 1 ∨ i = 2 ∨ i = 3 ∨ i = 4 := by omega
    rcases c with rfl | rfl | rfl | rfl | rfl
    · exact hcell 0 _ (by omega) rfl
    · exact hcell 1 _ (by omega) rfl
    · exact hcell 2 _ (by omega) rfl
    · exact hcell 3 _ (by omega) rfl
    · exact hcell 4 _ (by omega) rfl
theorem tabs {W : World} (h : laidMetH Tryd.prog Rows.fnExactShowPassesRow.laid W) : QFnExactShowPasses.GT W := by
  rw [MakeChecks.laidMetH_plain _ _ _ (by kernel_rfl)] at h
  have h3 := Lib.laidMet.reads h (n := "unicode/utf8.first") (d := Lib.firstData) (by rw [← Pinned.utf8First_eq]; simp [Rows.fnExactShowPassesRow, Rows.laid_unicode_utf8_first])
  have h4 := Lib.laidMet.reads h (n := "unicode/utf8.acceptRanges") (d := Lib.acceptData) (by rw [← acc_eq]; simp [Rows.fnExactShowPassesRow])
  have h5 := Lib.laidMet.reads h (n := "loop.example/g00044/impl.normNames") (d := Rows.laid_loop_example_g00044_impl_normNames) (by simp [Rows.fnExactShowPassesRow])
  exact ⟨utf8Tabs_of_reads Tryd.lays260 extra h3 h4, names_of h5⟩
section
open Go.Deep QFnExactShowPasses Go.Proofs.YtiabgmddnddeiaaDoorW.PrintWords
variable {H : Type} {enc : TypeId × Value → H} {w : World} {base : Nat} {spare : Nat → Bool} {held : Bool}
theorem list_of {α : Type} {Q : Nat → α → Prop} : ∀ (n : Nat), (∀ i, i < n → ∃ x, Q i x) → ∃ L : List α, L.length = n ∧ ∀ i x, L[i]? = some x → Q i x
  | 0, _ => ⟨[], rfl, fun i x h => by simp at h⟩
  | n + 1, h => by
    obtain ⟨L, hl, hq⟩ := list_of n (fun i hi => h i (by omega))
    obtain ⟨x, hx⟩ := h n (by omega)
    refine ⟨L ++ [x], by simp [hl], fun i y hy => ?_⟩
    by_cases c : i < n
    · rw [List.getElem?_append_left (by omega)] at hy
      exact hq i y hy
    · rw [List.getElem?_append_right (by omega)] at hy
      have e : i = n := by
        by_cases g : i - L.length = 0
        · omega
        · rw [List.getElem?_eq_none (by simp; omega)] at hy
          cases hy
      subst e
      rw [hl, Nat.sub_self] at hy
      have : x = y := by simpa using hy
      rw [← this]; exact hx
theorem open_row {α : Type} (d : Kd α) (good : α → Prop) {t e : TypeId} (ht : Tryd.prog.underlying t = some (.slice e)) (hC : Tryd.prog.cellsOf e = d.sz)
    (elem : ∀ {n : Nat} {cs : List Value} {y : DataW H × List MemPlace}, DataW.trod enc Tryd.prog w base spare held n e cs = some y → ∃ x : α, d.K w x cs ∧ good x)
    {fuel : Nat} {cs : List Value} {x : DataW H × List MemPlace} (h : DataW.trod enc Tryd.prog w base spare held fuel t cs = some x) :
    ∃ (A : Option Addr) (c : Nat) (L : List α), cs = [.slice A L.length c] ∧ L.length ≤ c ∧ c ≤ maxLen ∧ d.C w A L.length L ∧ ∀ x ∈ L, good x := by
  rcases open_slice ht h with ⟨hcs, _⟩ | ⟨a, len, cap, m, n, Dt, Pl, hcs, hb, hl, hm, hmm, hx, hall⟩
  · exact ⟨none, 0, [], hcs, Nat.le_refl _, Nat.zero_le _, ⟨rfl, Nat.zero_le _, fun z => absurd z (Nat.lt_irrefl 0)⟩, fun x hx => by cases hx⟩
  · have hlm : len ≤ m := by rw [hmm]; split <;> omega
    obtain ⟨L, hL, hq⟩ := list_of (α := α) (Q := fun i x => good x ∧ ∃ cs', d.K w x cs' ∧ w.cells? base (a.add (i * d.sz)) d.sz = some cs') len (fun i hi => by
      obtain ⟨cs', h1, h2⟩ := hall i (by omega)
      obtain ⟨x, hK, hg⟩ := elem h2
      rw [hC] at h1
      exact ⟨x, hg, cs', hK, h1⟩)
    subst hL
    have hM : maxLen = 9223372036854775807 := rfl
    refine ⟨some a, cap, L, hcs, hl, hm, ⟨rfl, by omega, fun _ => ⟨a, rfl, fun j p hp => ?_⟩⟩, fun x hx => ?_⟩
    · obtain ⟨_, cs', hK, hc⟩ := hq j p hp
      obtain ⟨_, hlen, hcell⟩ := World.cells?_some hc
      refine ⟨cs', d.K_len hK, hK, fun i u hu => ?_⟩
      have hi : i < d.sz := by
        by_cases g : i < d.sz
        · exact g
        · rw [List.getElem?_eq_none (by rw [d.K_len hK]; omega)] at hu; cases hu
      have := hcell i hi
      rw [hu, Addr.add_add] at this
      exact this
    · obtain ⟨j, hj, rfl⟩ := List.getElem_of_mem hx
      exact (hq j _ (List.getElem?_eq_getElem hj)).1
theorem list2 {β : Type} : ∀ {l : List β}, l.length = 2 → ∃ a b, l = [a, b]
  | [a, b], _ => ⟨a, b, rfl⟩
theorem list5 {β : Type} : ∀ {l : List β}, l.length = 5 → ∃ a b c d e, l = [a, b, c, d, e]
  | [a, b, c, d, e], _ => ⟨a, b, c, d, e, rfl⟩
theorem rule_of {n : Nat} {cs : List Value} {y : DataW H × List MemPlace} (h : DataW.trod enc Tryd.prog w base spare held n 180 cs = some y) : ∃ x : S180, k180.K w x cs ∧ Pure.Pass.big x := by
  obtain ⟨xs, m, _, _, hl, hx, hf⟩ := DataW.trod_struct Tryd.underlying180 h
  have hC : Tryd.prog.cellsOf 180 = 5 := by kernel_rfl
  have h9 : Tryd.prog.cellsOf 9 = 1 := by kernel_rfl
  have h2 : Tryd.prog.cellsOf 2 = 1 := by kernel_rfl
  have hM : maxLen = 9223372036854775807 := rfl
  rw [hC] at hl
  obtain ⟨c0, c1, c2, c3, c4, rfl⟩ := list5 hl
  obtain ⟨y0, y1, y2, y3, y4, rfl⟩ := list5 (show xs.length = 5 from hx)
  obtain ⟨s0, e0, _, z0⟩ := DataW.trod_string Tryd.underlying9 (hf 0 _ rfl)
  obtain ⟨s1, e1, _, z1⟩ := DataW.trod_string Tryd.underlying9 (hf 1 _ rfl)
  obtain ⟨s2, e2, _, z2⟩ := DataW.trod_string Tryd.underlying9 (hf 2 _ rfl)
  obtain ⟨s3, e3, _, z3⟩ := DataW.trod_string Tryd.underlying9 (hf 3 _ rfl)
  obtain ⟨n4, e4, _, _⟩ := DataW.trod_int Tryd.underlying2 (hf 4 _ rfl)
  obtain rfl : c0 = .string s0 := by simpa [h9] using e0
  obtain rfl : c1 = .string s1 := by simpa [h9] using e1
  obtain rfl : c2 = .string s2 := by simpa [h9] using e2
  obtain rfl : c3 = .string s3 := by simpa [h9] using e3
  obtain rfl : c4 = .int .i64 n4 := by simpa [h2] using e4
  exact ⟨⟨s0, s1, s2, s3, n4⟩, k180_mk w ⟨s0, s1, s2, s3, n4⟩, by rw [hM] at z0 z1 z2 z3; exact ⟨z0, z1, z2, z3⟩⟩
def goodPass (p : S102) : Prop := p.f0.length ≤ 9223372036854775807 ∧ ∀ x ∈ p.f0, Pure.Pass.big x
theorem pass_of {n : Nat} {cs : List Value} {y : DataW H × List MemPlace} (h : DataW.trod enc Tryd.prog w base spare held n 102 cs = some y) : ∃ x : S102, k102.K w x cs ∧ goodPass x := by
  obtain ⟨xs, m, _, _, hl, hx, hf⟩ := DataW.trod_struct Tryd.underlying102 h
  have hC : Tryd.prog.cellsOf 102 = 2 := by kernel_rfl
  have h6 : Tryd.prog.cellsOf 100 = 1 := by kernel_rfl
  have h2 : Tryd.prog.cellsOf 2 = 1 := by kernel_rfl
  have hM : maxLen = 9223372036854775807 := rfl
  rw [hC] at hl
  obtain ⟨c0, c1, rfl⟩ := list2 hl
  obtain ⟨y0, y1, rfl⟩ := list2 (show xs.length = 2 from hx)
  obtain ⟨A, c, L, e0, hlc, hcm, hLC, hg⟩ := open_row k180 Pure.Pass.big Tryd.underlying100 (by kernel_rfl) rule_of (hf 0 _ rfl)
  obtain ⟨n1, e1, _, _⟩ := DataW.trod_int Tryd.underlying2 (hf 1 _ rfl)
  obtain rfl : c0 = .slice A L.length c := by simpa [h6] using e0
  obtain rfl : c1 = .int .i64 n1 := by simpa [h2] using e1
  exact ⟨⟨L, n1⟩, k102_mk w ⟨L, n1⟩ hlc hLC, by rw [hM] at hcm; exact Nat.le_trans hlc hcm, hg⟩
end
theorem laidOut : laidOutB Tryd.prog = true := by kernel_rfl
set_option maxRecDepth 100000 in
theorem lifted (os : Os) (started : os.Started) (H : Type) (enc : TypeId × Value → H) :
    ReturnsInHanded {} Tryd.checked os 6 .any (fun w args => (Rows.fnExactShowPassesSpec.pre enc Tryd.prog Tryd.f6 [] false w args ∧ laidMetH Tryd.prog Rows.fnExactShowPassesRow.laid w) ∧ sizedMet enc Tryd.prog Tryd.f6 (OpenSpec.ofChange Rows.fnExactShowPassesSpec) false w args)
      (Rows.fnExactShowPassesSpec.post enc Tryd.prog Tryd.f6 false true false false) := by
  refine returnsInHanded_of_change_and (C := Tryd.checked) (X := fun w _ => laidMetH Tryd.prog Rows.fnExactShowPassesRow.laid w) (fun _ _ _ hh h => h.of_heap hh) own started (by kernel_rfl) Tryd.func6
    (ChangeSpec.witness_shaped (enc := enc) (C := Tryd.checked) (os := os) (X := fun w _ => laidMetH Tryd.prog Rows.fnExactShowPassesRow.laid w) false (World.laidAll Tryd.prog os Rows.fnExactShowPassesRow.laid) #[.slice none 0 0] 8 (World.laidAll_os _ _ _)
      (World.shaped_of_ZipB (by kernel_rfl) (by kernel_rfl)) (by kernel_rfl) (by kernel_rfl) (by kernel_rfl)
      (by rw [MakeChecks.laidMetH_plain _ _ _ (by kernel_rfl)]; exact laidMet_laidAll _ (by kernel_rfl) (by kernel_rfl))) ?_
  intro W base args ds gs before hval0 hW hcnd hsz0 hL _
  have hsz : (DataW.weightsEach Tryd.prog (Tryd.f6.params.toList ++ Rows.fnExactShowPassesSpec.plain.varTypes Tryd.prog) (ds ++ gs)).all (· ≤ reachBytes) = true := hsz0
  have hval : ∀ (j : Nat) t v, Tryd.f6.params[j]? = some t → args[j]? = some v → Value.okWide Tryd.prog W .any base t v := hval0
  have hW' := hW
  obtain ⟨p, q, hA0, hV, rfl, hfz, hnd⟩ := hW
  have hA : DataW.TrodAll enc Tryd.prog W 0 (fun _ => true) true Tryd.f6.params.toList args.toList ds p := hA0
  rw [Tryd.params6] at hA hval hsz
  obtain ⟨v0, vs0, d0, ds0, p0, q0, hargs, rfl, rfl, h0, r0⟩ := trodAll_cons hA
  obtain ⟨rfl, rfl, rfl⟩ := trodAll_nil r0
  obtain rfl : args = #[v0] := by cases args; simp_all
  obtain ⟨_, _, _, _, g1, _, rfl, _, _, _, _, _⟩ := trodVars_one hV
  obtain ⟨a0, len0, cap0, rfl⟩ := okWide_slice Tryd.underlying47 (hval 0 47 v0 rfl rfl)
  have k0 := h0
  have lt0 : ∀ x ∈ p0, x.block < W.heap.size := by obtain ⟨m, hm⟩ := k0; exact DataW.trod_lt m _ _ _ hm
  obtain ⟨fuel, hf⟩ := h0
  obtain ⟨A, c, L, hcs, hlc, hcm, hLC, hg⟩ := open_row QFnExactShowPasses.k102 goodPass Tryd.underlying47 (by kernel_rfl) pass_of hf
  simp [Value.cells] at hcs
  obtain ⟨rfl, rfl, rfl⟩ := hcs
  clear hA0 hval0 hsz0 hsz
  have hM : maxLen = 9223372036854775807 := rfl
  obtain ⟨k, hk⟩ := Pure.FnExactShowPasses L ⟨by rw [hM] at hcm; exact Nat.le_trans hlc hcm, hg⟩
  refine (QFnExactShowPasses.laws_FnExactShowPasses.calls k _ _ L W hLC hlc hk (tabs hL)).mono fun e W' ⟨he, bel⟩ => ?_
  subst he
  exact ⟨_, rfl, _, _, _, [], _, _, hW', trodAll_mk1 (shut_bool Tryd.underlying4 _), (trodAll_cons_mk (Below.trod laidOut (by kernel_rfl) (of_decide_eq_true (by kernel_rfl)) k0 bel lt0) trodAll_mk0), Below.trodVars laidOut bel (by kernel_rfl) hV, bel.frame _, fun h => by cases h⟩
theorem over : Rows.fnExactShowPassesRow.holds Tryd.pinned (OpenSpec.ofChange Rows.fnExactShowPassesSpec) :=
  OpenClaim.holds_of_wide 6 Tryd.f6 rfl rfl rfl rfl rfl rfl rfl ⟨rfl, rfl, rfl, rfl, rfl⟩ rfl rfl rfl rfl rfl (by kernel_rfl) Tryd.func6 (by kernel_rfl)
    (of_decide_eq_true (by kernel_rfl)) (by unfold Func.isWrapper; first | (rw [if_pos (by decide +kernel)]; kernel_rfl) | (rw [if_neg (by decide +kernel)]; exact ⟨rfl, rfl⟩))
    (fun os started H enc _ => lifted os started H enc)
set_option maxRecDepth 100000 in
theorem proved : Rows.FnExactShowPassesCardSaid :=
  Claim7.holds_tied_plain_at .later [] [.data, .data, .pinned] true (true, "1b2575646944e52fa290789c489585c1848aef1c152e23816bcb225275c9cfbd") false over (fun _ h => by cases h) (by as_aux_lemma => kernel_rfl) (fun _ h => by cases h) fnExactShowPasses_row_tie rfl ⟨rfl, rfl⟩ (by as_aux_lemma => kernel_rfl) rfl
    (fun f fn hf hfn => by
      obtain rfl : f = 6 := Option.some.inj ((show Tryd.prog.funcNamed "loop.example/g00044/laws.FnExactShowPasses" = some 6 by as_aux_lemma => kernel_rfl).symm.trans hf) |>.symm
      obtain rfl : fn = Tryd.f6 := (Option.some.inj (Tryd.func6.symm.trans hfn)).symm
      exact ⟨by as_aux_lemma => kernel_rfl, fun j t ht => by
        rw [Tryd.params6] at ht
        have hm : t ∈ [47] := by simpa using Array.mem_of_getElem? ht
        have hall : ([47].all fun u => !Tryd.prog.wantsStandIn u) = true := by as_aux_lemma => kernel_rfl
        exact (show Tryd.prog.wantsStandIn t = false by simpa using List.all_eq_true.1 hall t hm)⟩)
    (by as_aux_lemma => kernel_rfl)
#print axioms proved
end Go.Proofs.YtiabgmddnddeiaaDoor.fnExactShowPasses
namespace Go.Proofs.YtiabgmddnddeiaaDoor
/-- The row, under a short name, for the claim. -/
theorem fnExactShowPasses_holds : Rows.FnExactShowPassesCardSaid := fnExactShowPasses.proved
end Go.Proofs.YtiabgmddnddeiaaDoor
