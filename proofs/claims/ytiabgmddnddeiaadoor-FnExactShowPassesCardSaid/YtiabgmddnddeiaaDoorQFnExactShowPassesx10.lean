/- The law FnExactShowPasses: at every input the call answers true (this text: contracts on its way, by a program of this session's; no condition of ours). -/
import Derived.Test.YtiabgmddnddeiaaDoorQFnExactShowPassesx0
import Derived.Test.YtiabgmddnddeiaaDoorQFnExactShowPassesx7
import Derived.Test.YtiabgmddnddeiaaDoorQFnExactShowPassesx8
import Derived.Test.YtiabgmddnddeiaaDoorQFnExactShowPassesx9
namespace Go.Proofs.YtiabgmddnddeiaaDoor.QFnExactShowPasses
open Go.RowKit Go.Proofs.YtiabgmddnddeiaaDoorW.PrintWords Go.Proofs.YtiabgmddnddeiaaDoorW.PrintLast Go.Proofs.YtiabgmddnddeiaaDoorW.PrintMore
attribute [local go_sem] max2_int min2_int max_two min_two max_three min_three max_four min_four   -- for this text's walks alone
set_option linter.unusedVariables false
set_option linter.unusedSimpArgs false

/-! ### impl_ShowPasses: function 41 (by hand) -/
theorem bInfo : ∃ j, Tryd.prog.info? 112 = some j ∧ j.size = 2 := by
  obtain ⟨j, hj, hjs⟩ := Option.map_eq_some_iff.1 Tryd.Builder_Extra_169.sizeBuilder
  exact ⟨j, hj, hjs⟩
set_option maxHeartbeats 1000000 in
set_option maxRecDepth 100000 in
/-- a builder that has been written to: its address is its own -/
theorem bCheckUsed (b : Nat) (w : World) (h0 : w.cell? ⟨b, 0, none⟩ = some (.pointer (some ⟨b, 0, none⟩))) :
    Calls Tryd.prog 197 #[.pointer (some ⟨b, 0, none⟩)] w fun e w' => e = .returned (.tuple #[]) ∧ w' = w := by
  obtain ⟨j, hj, hjs⟩ := bInfo
  go_enter Tryd.func197, Tryd.ntmps197
  go_wp2
  rw [Lib.run_neq_ptr_same w _ Tryd.underlying110 hj]
  go_wp2
  go_end0
  exact ⟨rfl, rfl⟩
set_option maxHeartbeats 1000000 in
set_option maxRecDepth 100000 in
theorem bCheckFresh (b : Nat) (w : World) (h0 : w.cell? ⟨b, 0, none⟩ = some (.pointer none)) (hsh : w.shape? b = some (112, 2)) (hfz : w.frozen? ⟨b, 0, none⟩ = false) :
    Calls Tryd.prog 197 #[.pointer (some ⟨b, 0, none⟩)] w fun e w' => e = .returned (.tuple #[]) ∧ w' = w.setCell ⟨b, 0, none⟩ (.pointer (some ⟨b, 0, none⟩)) := by
  obtain ⟨j, hj, hjs⟩ := bInfo
  go_enter Tryd.func197, Tryd.ntmps197
  go_wp2
  rw [Lib.run_to_unsafe w ⟨b, 0, none⟩ Tryd.underlying110 Tryd.underlying182 hj (by rw [hjs]; decide) hsh (Nat.zero_lt_succ 1)]
  simp only [Result.andThen]
  rw [Oper.upon_value]
  go_wp2
  rw [run_callFunc_extern Tryd.func233 (by kernel_rfl) (by kernel_rfl) (by kernel_rfl) (e := Extern.AbiNoEscape.same) (by kernel_rfl)]
  rw [Lib.run_noEscape]
  simp only [Result.andThen]
  rw [Oper.upon_value]
  go_wp2
  rw [Lib.run_from_unsafe w ⟨b, 0, none⟩ Tryd.underlying182 Tryd.underlying110 hj hsh Tryd.Builder_Extra_169.liesBuilder]
  simp only [Result.andThen]
  rw [Oper.upon_value]
  go_wp2
  go_end0
  exact ⟨rfl, rfl⟩
theorem bCheck (B b : Nat) (bs : List Value) (w : World) (h : Lib.IsBuilderF 112 5 B b bs w) :
    Calls Tryd.prog 197 #[.pointer (some ⟨b, 0, none⟩)] w fun e w' => e = .returned (.tuple #[]) ∧ Lib.BuilderAtF 112 5 B b (.pointer (some ⟨b, 0, none⟩)) bs w' ∧ Below B w w' ∧ Lib.OthersKept 5 (some b) w w' := by
  rcases h with h | h
  · refine (bCheckFresh b w h.cell0 h.shape h.frozen0).mono ?_
    rintro e w' ⟨rfl, rfl⟩
    exact ⟨rfl, h.used _, (Below.refl B w).setCell (p := ⟨b, 0, none⟩) h.1 _, (Lib.OthersKept.refl _ _ w).setCell ⟨b, 0, none⟩ rfl _⟩
  · refine (bCheckUsed b w h.cell0).mono ?_
    rintro e w' ⟨rfl, rfl⟩
    exact ⟨rfl, h, Below.refl B _, Lib.OthersKept.refl _ _ _⟩
set_option maxHeartbeats 2000000 in
set_option maxRecDepth 100000 in
/-- WriteString: the text's bytes behind the builder's -/
theorem bWrite (B b : Nat) (bs : List Value) (s : ByteArray) (w : World) (h : Lib.IsBuilderF 112 5 B b bs w) (hlen : bs.length + s.size ≤ 140737488355328) (hBw : B ≤ w.heap.size) :
    Calls Tryd.prog 129 #[.pointer (some ⟨b, 0, none⟩), .string s] w fun e w' => e = .returned (.tuple #[.int .i64 s.size, .nilIface]) ∧ Lib.IsBuilderF 112 5 B b (bs ++ Lib.strCells s) w' ∧ Below B w w' ∧ Lib.OthersKept 5 (some b) w w' := by
  obtain ⟨i0, hi, hz0, hz1, hz2⟩ := info_parts info5
  go_enter Tryd.func129, Tryd.ntmps129
  go_wp2_with (go_at_call 197; refine (bCheck B b bs _ h).mono ?_)
  rintro e w1 ⟨rfl, h1, hb1, hk1⟩
  obtain ⟨hB, v, hbk, hown, hne⟩ := h1
  have c0 : w1.cell? ⟨b, 0, none⟩ = some (.pointer (some ⟨b, 0, none⟩)) := by rw [Lib.cell_of_heap hbk]; rfl
  have c1 : w1.cell? ⟨b, 1, none⟩ = some v := by rw [Lib.cell_of_heap hbk]; rfl
  go_wp2_with (at_builtin; refine Lib.wpList_append_own_stringF _ rfl _ _ 22 9 rfl B 5 i0 Tryd.underlying22 Tryd.underlying9 hi hz0 hz1 hz2 _ _ _ rfl hown s rfl ?c3 ?c4 ?c5 ?_)
  case c3 => unfold maxLen; omega
  case c4 => omega
  case c5 => have := hb1.size; omega
  intro v' w2 hown' hgrow _
  have hlt : b < w1.heap.size := by
    rcases Nat.lt_or_ge b w1.heap.size with h' | h'
    · exact h'
    · rw [Array.getElem?_eq_none h'] at hbk; cases hbk
  have hb2 : w2.heap[b]? = some (.cells #[.pointer (some ⟨b, 0, none⟩), v] 112 (0, 0)) := (hgrow.block b hlt (fun e => hne e.symm)).trans hbk
  have d0 : w2.cell? ⟨b, 0, none⟩ = some (.pointer (some ⟨b, 0, none⟩)) := by rw [Lib.cell_of_heap hb2]; rfl
  have d1 : w2.cell? ⟨b, 1, none⟩ = some v := by rw [Lib.cell_of_heap hb2]; rfl
  have f1 : w2.frozen? ⟨b, 1, none⟩ = false := Lib.frozen_of_heap hb2 1
  obtain ⟨ao, n', cap, rfl⟩ : ∃ ao n' cap, v' = .slice ao n' cap := by
    rcases hown'.2 with ⟨hv, _⟩ | ⟨g, cap, cur, fz, hv, _⟩
    · exact ⟨_, _, _, hv⟩
    · exact ⟨_, _, _, hv⟩
  go_wp2
  go_ret2
  refine ⟨rfl, .inr ?_, ?_, (hk1.grown hgrow (Lib.ownsRowF_kind hown)).setCell ⟨b, 1, none⟩ rfl _⟩
  · exact Lib.BuilderAtF.put (T := 112) (e := 5) hB hb2 (bs' := bs ++ Lib.strCells s) (by simpa [Lib.strCells_length] using hown') (by decide)
  · exact (hb1.grown hgrow (by have := hb1.size; omega) (fun k hk => (hown.lt k hk).1)).setCell (p := ⟨b, 1, none⟩) hB _
theorem bBelow {B b : Nat} {bs : List Value} {w w' : World} (h : Lib.IsBuilderF 112 5 B b bs w) (hb : Below w.heap.size w w') : Lib.IsBuilderF 112 5 B b bs w' := by
  have key : ∀ p, Lib.BuilderAtF 112 5 B b p bs w → Lib.BuilderAtF 112 5 B b p bs w' := by
    intro p h
    have hlt := h.lt
    obtain ⟨hB, v, hbk, hown, hne⟩ := h
    refine ⟨hB, v, (hb.block b hlt).trans hbk, ?_, hne⟩
    have hl := hown.lt
    refine ⟨hown.1, ?_⟩
    rcases hown.2 with z | ⟨g, cap, cur, fz, rfl, hbg, hgg, rest⟩
    · exact .inl z
    · exact .inr ⟨g, cap, cur, fz, rfl, hbg, (hb.block g (hl g rfl).2).trans hgg, rest⟩
  exact h.elim (fun x => .inl (key _ x)) (fun x => .inr (key _ x))
theorem strCells_app (a b : ByteArray) : Lib.strCells a ++ Lib.strCells b = Lib.strCells (a ++ b) := by
  unfold Lib.strCells
  rw [← List.map_append]
  congr 1
theorem nums_app (a b : List Int) : strOfNums a ++ strOfNums b = strOfNums (a ++ b) := by
  unfold strOfNums
  apply ByteArray.ext
  simp
def impl_ShowPasses.line (r : S108) : List Int := YtiabgmddnddeiaaDoorShp.oneL (bytesOf r.f0) (bytesOf r.f1) (bytesOf r.f2) (bytesOf r.f3) r.f4
def impl_ShowPasses.head (p : S106) : List Int := [58] ++ YtiabgmddnddeiaaDoorShp.nameL p.f1 ++ [10]
def impl_ShowPasses.pass (p : S106) : List Int := impl_ShowPasses.head p ++ p.f0.flatMap impl_ShowPasses.line
def impl_ShowPasses.all (l : List (S106)) : List Int := l.flatMap impl_ShowPasses.pass
def impl_ShowPasses.okR (r : S108) : Prop := r.f0.size ≤ 1000 ∧ r.f1.size ≤ 1000 ∧ r.f2.size ≤ 1000 ∧ r.f3.size ≤ 1000 ∧ r.f4 ≤ 1000
def impl_ShowPasses.fits (l : List (S106)) : Prop := l.length ≤ 1000 ∧ ∀ p ∈ l, (0 ≤ p.f1 ∧ p.f1 ≤ 4) ∧ p.f0.length ≤ 1000 ∧ ∀ r ∈ p.f0, impl_ShowPasses.okR r
theorem bLt {B b : Nat} {bs : List Value} {w : World} (h : Lib.IsBuilderF 112 5 B b bs w) : b < w.heap.size := h.elim (fun x => x.lt) (fun x => x.lt)
theorem nm_eq {n : Nat} (h : n ≤ 4) : nmOf n = strOfNums (YtiabgmddnddeiaaDoorShp.nameL (n : Int)) := by
  have : n = 0 ∨ n = 1 ∨ n = 2 ∨ n = 3 ∨ n = 4 := by omega
  rcases this with e | e | e | e | e <;> subst e <;> rfl
theorem flat_len {α : Type} (f : α → List Int) (m : Nat) : ∀ l : List α, (∀ x ∈ l, (f x).length ≤ m) → (l.flatMap f).length ≤ l.length * m
  | [], _ => by simp
  | x :: l, h => by
    have h1 := h x (by simp)
    have h2 := flat_len f m l (fun y hy => h y (by simp [hy]))
    rw [List.flatMap_cons, List.length_append, List.length_cons, Nat.succ_mul]
    omega
theorem line_len {r : S108} (h : impl_ShowPasses.okR r) : (impl_ShowPasses.line r).length ≤ 10000 := by
  obtain ⟨a, b, c, d, e⟩ := h
  have l1 := YtiabgmddnddeiaaDoorShp.esc_len (bytesOf r.f0)
  have l2 := YtiabgmddnddeiaaDoorShp.esc_len (bytesOf r.f1)
  have l3 := YtiabgmddnddeiaaDoorShp.esc_len (bytesOf r.f2)
  have l4 := YtiabgmddnddeiaaDoorShp.esc_len (bytesOf r.f3)
  rw [bytesOf_length] at l1 l2 l3 l4
  have l5 : (YtiabgmddnddeiaaDoorShp.bars r.f4).length ≤ 1001 := by unfold YtiabgmddnddeiaaDoorShp.bars; split <;> simp <;> omega
  unfold impl_ShowPasses.line YtiabgmddnddeiaaDoorShp.oneL
  simp only [List.length_append, List.length_cons, List.length_nil]
  omega
theorem nameL_len (n : Int) : (YtiabgmddnddeiaaDoorShp.nameL n).length ≤ 4 := by
  unfold YtiabgmddnddeiaaDoorShp.nameL
  repeat' split
  all_goals decide
theorem head_len (p : S106) : (impl_ShowPasses.head p).length ≤ 6 := by
  have := nameL_len p.f1
  unfold impl_ShowPasses.head
  simp only [List.length_append, List.length_cons, List.length_nil]
  omega
theorem part_len {p : S106} (h1 : p.f0.length ≤ 1000) (h2 : ∀ r ∈ p.f0, impl_ShowPasses.okR r) (j : Nat) : (impl_ShowPasses.head p ++ (p.f0.take j).flatMap impl_ShowPasses.line).length ≤ 10000010 := by
  have a := head_len p
  have b := flat_len impl_ShowPasses.line 10000 (p.f0.take j) (fun r hr => line_len (h2 r (List.mem_of_mem_take hr)))
  have c : (p.f0.take j).length ≤ 1000 := by rw [List.length_take]; omega
  have d : (p.f0.take j).length * 10000 ≤ 1000 * 10000 := Nat.mul_le_mul_right _ c
  rw [List.length_append]
  omega
theorem all_len {l : List (S106)} (h : impl_ShowPasses.fits l) (i : Nat) : (impl_ShowPasses.all (l.take i)).length ≤ 10000010000 := by
  have b := flat_len impl_ShowPasses.pass 10000010 (l.take i) (fun p hp => by
    have := h.2 p (List.mem_of_mem_take hp)
    have q := part_len this.2.1 this.2.2 p.f0.length
    rw [List.take_length] at q
    exact q)
  have c : (l.take i).length ≤ 1000 := by rw [List.length_take]; have := h.1; omega
  have d : (l.take i).length * 10000010 ≤ 1000 * 10000010 := Nat.mul_le_mul_right _ c
  unfold impl_ShowPasses.all
  omega
theorem nums_size (l : List Int) : (strOfNums l).size = l.length := strOfNums_size l
theorem rep_eq (n : Nat) : (⟨(Lib.repeatL (⟨#[124]⟩ : ByteArray).data.toList n).toArray⟩ : ByteArray) = strOfNums (List.replicate n 124) := by
  have key : ∀ n, Lib.repeatL ((⟨#[124]⟩ : ByteArray).data.toList) n = (List.replicate n (124 : Int)).map (fun b => b.toNat.toUInt8) := by
    intro n
    induction n with
    | zero => rfl
    | succ n ih => rw [Lib.repeatL, ih, List.replicate_succ, List.map_cons]; rfl
  rw [key]
  rfl
def impl_ShowPasses.okB (r : S108) : Bool := decide (r.f0.size ≤ 1000) && (decide (r.f1.size ≤ 1000) && (decide (r.f2.size ≤ 1000) && (decide (r.f3.size ≤ 1000) && decide (r.f4 ≤ 1000))))
def impl_ShowPasses.fitB (l : List (S106)) : Bool := decide (l.length ≤ 1000) && l.all (fun p => decide (0 ≤ p.f1) && (decide (p.f1 ≤ 4) && (decide (p.f0.length ≤ 1000) && p.f0.all impl_ShowPasses.okB)))
theorem impl_ShowPasses.okB_iff (r : S108) : impl_ShowPasses.okB r = true ↔ impl_ShowPasses.okR r := by
  unfold impl_ShowPasses.okB impl_ShowPasses.okR
  simp only [Bool.and_eq_true, decide_eq_true_eq]
theorem impl_ShowPasses.fitB_iff (l : List (S106)) : impl_ShowPasses.fitB l = true ↔ impl_ShowPasses.fits l := by
  unfold impl_ShowPasses.fitB impl_ShowPasses.fits
  simp only [Bool.and_eq_true, decide_eq_true_eq, List.all_eq_true, impl_ShowPasses.okB_iff, and_assoc]
/-- what ShowPasses tells: the passes as a text, if it is not too long -/
def impl_ShowPasses.g (l : List (S106)) : Option ByteArray := if impl_ShowPasses.fitB l = true then impl_short.f (strOfNums (impl_ShowPasses.all l)) else none
def impl_ShowPasses.f (k : Nat) (l0 : List (S106)) : Option ByteArray := (impl_PassesFault.f k l0).bind fun e => if e = 0 then impl_ShowPasses.g l0 else some ⟨#[]⟩
theorem impl_ShowPasses.mono : ∀ a0 k, LeO (impl_ShowPasses.f k a0) (impl_ShowPasses.f (k + 1) a0) := by
  intro a0 k r h
  unfold impl_ShowPasses.f at h ⊢
  obtain ⟨e, he, h⟩ := Option.bind_eq_some_iff.1 h
  rw [impl_PassesFault.mono _ _ _ he]
  exact h
def impl_ShowPasses.T11 : Bool × List (List Nat × List Nat) := (true, [([], []), ([0], [0]), ([1], [1]), ([2], [2]), ([], []), ([4], [4]), ([5, 2], [5]), ([3, 6], [3, 6]), ([7], [7]), ([], []), ([9], [9]), ([10, 6], [10]), ([8, 11], [8, 11]), ([12], [12]), ([], []), ([14], [14]), ([15, 11], [15]), ([13, 16], [13, 16]), ([17, 16], [17])])
def impl_ShowPasses.B11 : List Nat := [0, 1, 3, 7, 0, 16, 55, 127, 255, 0, 512, 1655, 4095, 8191, 0, 16384, 52855, 131071, 262143]
theorem impl_ShowPasses.tab11 : rtab .any (opsOf Tryd.f41 11) = impl_ShowPasses.T11 := by kernel_rfl
theorem impl_ShowPasses.bits11 : waitsOk impl_ShowPasses.T11.2 impl_ShowPasses.B11 = true := by kernel_rfl
set_option maxHeartbeats 8000000 in
set_option maxRecDepth 100000 in
theorem impl_ShowPasses.run (k : Nat) (A0 : Option Addr) (c0 : Nat) (l0 : List (S106)) (w : World) (hr0 : Kd.C k106 w A0 l0.length l0) (hc0 : l0.length ≤ c0) (h0 : impl_PassesFault.f k l0 = some 0) (hfit : impl_ShowPasses.fits l0) (r : ByteArray) (hr : impl_short.f (strOfNums (impl_ShowPasses.all l0)) = some r) (hG : GT w) :
    Calls Tryd.prog 41 #[.slice A0 l0.length c0] w fun e w' => e = .returned (.string r) ∧ Below w.heap.size w w' := by
  have HG := Aside0.mk hG
  have HR0 := Aside0.mk hr0
  have HC0 := Aside0.mk hc0
  have HF := Aside0.mk hfit
  have HH := Aside0.mk h0
  have HS := Aside0.mk hr
  have HB := Aside0.mk (Below.refl w.heap.size w)
  clear hG hr0 hc0 hfit h0 hr
  go_enter Tryd.func41, Tryd.ntmps41
  go_wp2_with (first | (go_at_call 128; (with_reducible refine (impl_PassesFault.calls k _ _ l0 0 _ HR0.out HC0.out HH.out HG.out).mono ?_); rintro e w1 ⟨rfl, hb⟩))
  obtain ⟨b, hbE⟩ : ∃ g, w1.heap.size = g := ⟨_, rfl⟩
  have hw1 := hb.size
  have hbn := blk_new w1 (.cells #[.pointer none, .slice none 0 0] 112)
  have hI0 : Lib.IsBuilderF 112 5 w.heap.size b (Lib.strCells (strOfNums (impl_ShowPasses.all (l0.take 0)))) (w1.alloc (.cells #[.pointer none, .slice none 0 0] 112)) := by
    refine .inl ⟨by omega, .slice none 0 0, ?_, World.ownsRowF_nil _ _ _ _, by simp [Value.ownBlock]⟩
    rw [← hbE]; exact hbn
  have hB0 : Below w.heap.size w (w1.alloc (.cells #[.pointer none, .slice none 0 0] 112)) := below_alloc hb _
  rw [hbE]
  have HI := Aside0.mk hI0
  have HB1 := Aside0.mk hB0
  have HBE : Aside0 (w.heap.size ≤ b) := ⟨by omega⟩
  clear hbn hI0 hB0 hbE hb HB hw1
  go_loopw [13] (fun v13 wr => ∃ i : Nat, i ≤ l0.length ∧ v13 = .int .i64 i ∧ Aside0 (Lib.IsBuilderF 112 5 w.heap.size b (Lib.strCells (strOfNums (impl_ShowPasses.all (l0.take i)))) wr) ∧ Aside0 (Below w.heap.size w wr)) (fun v13 _ => l0.length - (intOf v13).toNat)
  case atStart => exact ⟨0, Nat.zero_le _, rfl, HI, HB1⟩
  case round =>
    clear HI HB1
    obtain ⟨i, hi, rfl, HI, HB⟩ := hrel
    by_cases hlt : i < l0.length
    · have i0 : (0 : Int) ≤ (i : Int) := by omega
      have i1 : (i : Int) < (l0.length : Int) := by omega
      obtain ⟨ad, A1, c1, e1, hx0, hx1, hl1, hi1⟩ := at_T106 HR0.out (i : Int) i0 i1
      subst e1
      replace hx0 := (HB.out.cell (World.block_lt_of_cell? w _ hx0)).trans hx0
      replace hx1 := (HB.out.cell (World.block_lt_of_cell? w _ hx1)).trans hx1
      rw [Int.toNat_natCast] at hx0 hx1
      have hrd : rd_T106 l0 (i : Int) = l0[i] := by simp [rd_T106, List.getD, hlt]
      obtain ⟨p, hp⟩ : ∃ p, l0[i] = p := ⟨_, rfl⟩
      rw [hrd, hp] at hx0 hx1 hl1 hi1
      have HR1 := Aside0.mk hi1
      have HL1 := Aside0.mk hl1
      have HP := Aside0.mk hp
      have hpf := HF.out.2 p (by rw [← hp]; exact List.getElem_mem hlt)
      have q0 := eq_true i0
      have q1 := eq_true i1
      clear hrd hp hi1 hl1
      obtain ⟨nm, hnm⟩ : ∃ n : Nat, p.f1 = n := ⟨p.f1.toNat, by omega⟩
      have hnm4 : nm ≤ 4 := by omega
      rw [hnm] at hx1
      go_upto_region 7 with (fail)
      obtain ⟨g5, hg5⟩ : ∃ g, wr.heap.size = g := ⟨_, rfl⟩
      have hI2 := bBelow HI.out (below_alloc (Below.refl wr.heap.size wr) (.cells #[.slice A1 p.f0.length c1, .int .i64 nm] 106))
      have hB2 := below_alloc HB.out (.cells #[.slice A1 p.f0.length c1, .int .i64 nm] 106)
      have hk2 := blk_new wr (.cells #[.slice A1 p.f0.length c1, .int .i64 nm] 106)
      have hbl := bLt HI.out
      rw [hg5] at hk2 hbl ⊢
      obtain ⟨W2, hW2⟩ : ∃ x, wr.alloc (.cells #[.slice A1 p.f0.length c1, .int .i64 nm] 106) = x := ⟨_, rfl⟩
      rw [hW2] at hI2 hB2 hk2 ⊢
      have HI2 := Aside0.mk hI2
      have HB2 := Aside0.mk hB2
      clear hW2 hg5 hx0 hx1 HI HB hI2 hB2
      obtain ⟨nad, nc, hn0, hn1⟩ := (GT.below HG.out HB2.out).2
      have hn2 := hn1 nm (by omega)
      have k0 := (blk_cell hk2 0).trans rfl
      have k1 := (blk_cell hk2 1).trans rfl
      have n0 : ((0 : Int) ≤ (nm : Int)) = True := eq_true (by omega)
      have n1 : ((nm : Int) < ((5 : Nat) : Int)) = True := eq_true (by omega)
      have n2 : ((nm : Int) < 5) = True := eq_true (by omega)
      clear hn1
      have hal := all_len HF.out i
      have hlen : (Lib.strCells (strOfNums (impl_ShowPasses.all (l0.take i)))).length + ((((⟨#[58]⟩ : ByteArray) ++ nmOf nm) ++ (⟨#[10]⟩ : ByteArray))).size ≤ 140737488355328 := by
        rw [Lib.strCells_length, nums_size, ByteArray.size_append, ByteArray.size_append, nm_eq hnm4, nums_size]
        have := nameL_len (nm : Int)
        have e1 : (⟨#[58]⟩ : ByteArray).size = 1 := rfl
        have e2 : (⟨#[10]⟩ : ByteArray).size = 1 := rfl
        omega
      have hnz : (nmOf nm).size ≤ 4 := by rw [nm_eq hnm4, nums_size]; exact nameL_len _
      have z1 : (9223372036854775807 < 1 + (nmOf nm).size) = False := eq_false (by omega)
      have z2 : (9223372036854775807 < 1 + (nmOf nm).size + 1) = False := eq_false (by omega)
      go_wp2_with (go_at_call 129; refine (bWrite w.heap.size b _ _ _ HI2.out hlen HB2.out.size).mono ?_; rintro e w3 ⟨rfl, hI3, hb3, hk3⟩; have hk5 := hk3 g5 _ hk2 (by intro h; injection h with h; omega) (by intro c fz h; cases h); have k50 := (blk_cell hk5 0).trans rfl)
      have hhd : (((⟨#[58]⟩ : ByteArray) ++ nmOf nm) ++ (⟨#[10]⟩ : ByteArray)) = strOfNums (impl_ShowPasses.head p) := by
        rw [nm_eq hnm4]
        unfold impl_ShowPasses.head
        rw [hnm, ← nums_app, ← nums_app]; rfl
      rw [hhd, strCells_app, nums_app] at hI3
      have HI3 : Aside0 (Lib.IsBuilderF 112 5 w.heap.size b (Lib.strCells (strOfNums (impl_ShowPasses.all (l0.take i) ++ (impl_ShowPasses.head p ++ (p.f0.take 0).flatMap impl_ShowPasses.line)))) w3) := ⟨by rw [List.take_zero, List.flatMap_nil, List.append_nil]; exact hI3⟩
      have HB3 := Aside0.mk (HB2.out.trans hb3)
      clear hI3 hb3 hk3 hk5 k50 hlen hhd hnz z1 z2 HI2 HB2 hk2 k0 k1 hn0 hn2 n0 n1 n2
      go_loopw [28] (fun v28 wr => ∃ j : Nat, j ≤ p.f0.length ∧ v28 = .int .i64 j ∧ Aside0 (Lib.IsBuilderF 112 5 w.heap.size b (Lib.strCells (strOfNums (impl_ShowPasses.all (l0.take i) ++ (impl_ShowPasses.head p ++ (p.f0.take j).flatMap impl_ShowPasses.line)))) wr) ∧ Aside0 (Below w.heap.size w wr)) (fun v28 _ => p.f0.length - (intOf v28).toNat)
      case atStart => exact ⟨0, Nat.zero_le _, rfl, HI3, HB3⟩
      case round =>
        clear HI3 HB3
        obtain ⟨j, hj, rfl, HI, HB⟩ := hrel
        by_cases hjl : j < p.f0.length
        · have j0 : (0 : Int) ≤ (j : Int) := by omega
          have j1 : (j : Int) < (p.f0.length : Int) := by omega
          obtain ⟨ad1, e1, hx0, hx1, hx2, hx3, hx4⟩ := at_T108 HR1.out (j : Int) j0 j1
          subst e1
          replace hx0 := (HB.out.cell (World.block_lt_of_cell? w _ hx0)).trans hx0
          replace hx1 := (HB.out.cell (World.block_lt_of_cell? w _ hx1)).trans hx1
          replace hx2 := (HB.out.cell (World.block_lt_of_cell? w _ hx2)).trans hx2
          replace hx3 := (HB.out.cell (World.block_lt_of_cell? w _ hx3)).trans hx3
          replace hx4 := (HB.out.cell (World.block_lt_of_cell? w _ hx4)).trans hx4
          have hrd : rd_T108 p.f0 (j : Int) = p.f0[j] := by simp [rd_T108, List.getD, hjl]
          obtain ⟨q, hq⟩ : ∃ q, p.f0[j] = q := ⟨_, rfl⟩
          rw [hrd, hq] at hx0 hx1 hx2 hx3 hx4
          rw [Int.toNat_natCast] at hx0 hx1 hx2 hx3 hx4
          have HQ := Aside0.mk hq
          have hqf := hpf.2.2 q (by rw [← hq]; exact List.getElem_mem hjl)
          have q2 := eq_true j0
          have q3 := eq_true j1
          clear hrd hq
          go_upto_region 11 with (fail)
          obtain ⟨g7, hg7⟩ : ∃ g, wr.heap.size = g := ⟨_, rfl⟩
          have hbl7 := bLt HI.out
          have K7 := Aside0.mk (blk_drew (blk_new wr (.cells #[.string q.f0, .string q.f1, .string q.f2, .string q.f3, .int .i64 q.f4] 108)))
          replace HI := Aside0.mk (bBelow HI.out (below_drew1 (below_alloc (Below.refl wr.heap.size wr) (.cells #[.string q.f0, .string q.f1, .string q.f2, .string q.f3, .int .i64 q.f4] 108))))
          replace HB := Aside0.mk (below_drew1 (below_alloc HB.out (.cells #[.string q.f0, .string q.f1, .string q.f2, .string q.f3, .int .i64 q.f4] 108)))
          rw [hg7] at hbl7 K7 ⊢
          have HB7 : Aside0 (b < g7) := ⟨hbl7⟩
          obtain ⟨W4, hW4⟩ : ∃ x, wr.alloc (.cells #[.string q.f0, .string q.f1, .string q.f2, .string q.f3, .int .i64 q.f4] 108) = x := ⟨_, rfl⟩
          rw [hW4] at K7 HI HB ⊢
          clear hW4 hg7 hbl7 hx0 hx1 hx2 hx3 hx4
          obtain ⟨x0, e0⟩ : ∃ x, strOfNums (YtiabgmddnddeiaaDoorShp.esc (bytesOf q.f0)) = x := ⟨_, rfl⟩
          obtain ⟨x1, e1⟩ : ∃ x, strOfNums (YtiabgmddnddeiaaDoorShp.esc (bytesOf q.f1)) = x := ⟨_, rfl⟩
          obtain ⟨x2, e2⟩ : ∃ x, strOfNums (YtiabgmddnddeiaaDoorShp.esc (bytesOf q.f2)) = x := ⟨_, rfl⟩
          obtain ⟨x3, e3⟩ : ∃ x, strOfNums (YtiabgmddnddeiaaDoorShp.esc (bytesOf q.f3)) = x := ⟨_, rfl⟩
          have X0 : Aside0 (W_impl_escaped.f q.f0 = some x0) := ⟨by rw [← e0]; exact if_pos (by have := hqf.1; omega)⟩
          have X1 : Aside0 (W_impl_escaped.f q.f1 = some x1) := ⟨by rw [← e1]; exact if_pos (by have := hqf.2.1; omega)⟩
          have X2 : Aside0 (W_impl_escaped.f q.f2 = some x2) := ⟨by rw [← e2]; exact if_pos (by have := hqf.2.2.1; omega)⟩
          have X3 : Aside0 (W_impl_escaped.f q.f3 = some x3) := ⟨by rw [← e3]; exact if_pos (by have := hqf.2.2.2.1; omega)⟩
          have y0 : x0.size ≤ 2000 := by have := YtiabgmddnddeiaaDoorShp.esc_len (bytesOf q.f0); rw [bytesOf_length] at this; rw [← e0, nums_size]; have := hqf.1; omega
          have y1 : x1.size ≤ 2000 := by have := YtiabgmddnddeiaaDoorShp.esc_len (bytesOf q.f1); rw [bytesOf_length] at this; rw [← e1, nums_size]; have := hqf.2.1; omega
          have y2 : x2.size ≤ 2000 := by have := YtiabgmddnddeiaaDoorShp.esc_len (bytesOf q.f2); rw [bytesOf_length] at this; rw [← e2, nums_size]; have := hqf.2.2.1; omega
          have y3 : x3.size ≤ 2000 := by have := YtiabgmddnddeiaaDoorShp.esc_len (bytesOf q.f3); rw [bytesOf_length] at this; rw [← e3, nums_size]; have := hqf.2.2.2.1; omega
          have f1 : (9223372036854775807 < x0.size + 1) = False := eq_false (by omega)
          have f2 : (9223372036854775807 < x0.size + 1 + x1.size) = False := eq_false (by omega)
          have f3 : (9223372036854775807 < x0.size + 1 + x1.size + 1) = False := eq_false (by omega)
          have f4 : (9223372036854775807 < x0.size + 1 + x1.size + 1 + x2.size) = False := eq_false (by omega)
          have f5 : (9223372036854775807 < x0.size + 1 + x1.size + 1 + x2.size + 3) = False := eq_false (by omega)
          have f6 : (9223372036854775807 < x0.size + 1 + x1.size + 1 + x2.size + 3 + x3.size) = False := eq_false (by omega)
          have hal := all_len HF.out i
          have hpl := part_len hpf.2.1 hpf.2.2 j
          have hlen : (Lib.strCells (strOfNums (impl_ShowPasses.all (l0.take i) ++ (impl_ShowPasses.head p ++ (p.f0.take j).flatMap impl_ShowPasses.line)))).length + (((((((x0 ++ (⟨#[91]⟩ : ByteArray)) ++ x1) ++ (⟨#[93]⟩ : ByteArray)) ++ x2) ++ (⟨#[32, 62, 32]⟩ : ByteArray)) ++ x3)).size ≤ 140737488355328 := by
            rw [Lib.strCells_length, nums_size, List.length_append]
            simp only [ByteArray.size_append]
            have a1 : (⟨#[91]⟩ : ByteArray).size = 1 := rfl
            have a2 : (⟨#[93]⟩ : ByteArray).size = 1 := rfl
            have a3 : (⟨#[32, 62, 32]⟩ : ByteArray).size = 3 := rfl
            omega
          refine start_ (n := 19) (S := fun w' => w'.cell? ⟨g7, 0, none⟩ = some (.string q.f0) ∧ w'.cell? ⟨g7, 1, none⟩ = some (.string q.f1) ∧ w'.cell? ⟨g7, 2, none⟩ = some (.string q.f2) ∧ w'.cell? ⟨g7, 3, none⟩ = some (.string q.f3)) (ds := []) #[false,false,false,false,false,false,false,false,false,false,false,false,false,false,false,false,false,false,false] (by kernel_rfl) rfl rfl ⟨(blk_cell K7.out 0).trans rfl, (blk_cell K7.out 1).trans rfl, (blk_cell K7.out 2).trans rfl, (blk_cell K7.out 3).trans rfl⟩ (fun hHeld => ?_)
          refine with_tabW impl_ShowPasses.tab11 impl_ShowPasses.bits11 (fun HT_ HW_ => ?_)
          generalize W4.drew = W5 at K7 HI HB hHeld ⊢
          refine pure_ (i := 0) (N := some 32) (v := ?_) (a' := ?_) #[true,false,false,false,false,false,false,false,false,false,false,false,false,false,false,false,false,false,false] rfl rfl (any_of HT_.out (by kernel_rfl)) (fun _ _ _ h => h) (Or.inl ⟨by rfl, ?_⟩) ?_ ?_
          rotate_left
          · intro w'
            go_simp; with_reducible rfl
          rotate_left
          · simp only [Act.put, List.setIfInBounds_toArray, List.set_cons_zero, List.set_cons_succ, i64_w, i32_w]
            rfl
          refine pure_ (i := 4) (N := some 36) (v := ?_) (a' := ?_) #[true,false,false,false,true,false,false,false,false,false,false,false,false,false,false,false,false,false,false] rfl rfl (any_of HT_.out (by kernel_rfl)) (fun _ _ _ h => h) (Or.inl ⟨by rfl, ?_⟩) ?_ ?_
          rotate_left
          · intro w'
            go_simp; with_reducible rfl
          rotate_left
          · simp only [Act.put, List.setIfInBounds_toArray, List.set_cons_zero, List.set_cons_succ, i64_w, i32_w]
            rfl
          refine pure_ (i := 9) (N := some 41) (v := ?_) (a' := ?_) #[true,false,false,false,true,false,false,false,false,true,false,false,false,false,false,false,false,false,false] rfl rfl (any_of HT_.out (by kernel_rfl)) (fun _ _ _ h => h) (Or.inl ⟨by rfl, ?_⟩) ?_ ?_
          rotate_left
          · intro w'
            go_simp; with_reducible rfl
          rotate_left
          · simp only [Act.put, List.setIfInBounds_toArray, List.set_cons_zero, List.set_cons_succ, i64_w, i32_w]
            rfl
          refine pure_ (i := 14) (N := some 46) (v := ?_) (a' := ?_) #[true,false,false,false,true,false,false,false,false,true,false,false,false,false,true,false,false,false,false] rfl rfl (any_of HT_.out (by kernel_rfl)) (fun _ _ _ h => h) (Or.inl ⟨by rfl, ?_⟩) ?_ ?_
          rotate_left
          · intro w'
            go_simp; with_reducible rfl
          rotate_left
          · simp only [Act.put, List.setIfInBounds_toArray, List.set_cons_zero, List.set_cons_succ, i64_w, i32_w]
            rfl
          refine take_ (i := 1) (N := some 33) (v := ?_) (a' := ?_) #[true,true,false,false,true,false,false,false,false,true,false,false,false,false,true,false,false,false,false] rfl rfl (take_ofW HT_.out HW_.out (by kernel_rfl)) (fun _ _ _ h => h) (Or.inl ⟨by rfl, ?_⟩) hHeld ?_ ?_
          rotate_left
          · rintro w' ⟨s0, s1, s2, s3⟩
            go_simp; with_reducible rfl
          rotate_left
          · simp only [Act.put, List.setIfInBounds_toArray, List.set_cons_zero, List.set_cons_succ, i64_w, i32_w]
            rfl
          refine take_ (i := 5) (N := some 37) (v := ?_) (a' := ?_) #[true,true,false,false,true,true,false,false,false,true,false,false,false,false,true,false,false,false,false] rfl rfl (take_ofW HT_.out HW_.out (by kernel_rfl)) (fun _ _ _ h => h) (Or.inl ⟨by rfl, ?_⟩) hHeld ?_ ?_
          rotate_left
          · rintro w' ⟨s0, s1, s2, s3⟩
            go_simp; with_reducible rfl
          rotate_left
          · simp only [Act.put, List.setIfInBounds_toArray, List.set_cons_zero, List.set_cons_succ, i64_w, i32_w]
            rfl
          refine take_ (i := 10) (N := some 42) (v := ?_) (a' := ?_) #[true,true,false,false,true,true,false,false,false,true,true,false,false,false,true,false,false,false,false] rfl rfl (take_ofW HT_.out HW_.out (by kernel_rfl)) (fun _ _ _ h => h) (Or.inl ⟨by rfl, ?_⟩) hHeld ?_ ?_
          rotate_left
          · rintro w' ⟨s0, s1, s2, s3⟩
            go_simp; with_reducible rfl
          rotate_left
          · simp only [Act.put, List.setIfInBounds_toArray, List.set_cons_zero, List.set_cons_succ, i64_w, i32_w]
            rfl
          refine take_ (i := 15) (N := some 47) (v := ?_) (a' := ?_) #[true,true,false,false,true,true,false,false,false,true,true,false,false,false,true,true,false,false,false] rfl rfl (take_ofW HT_.out HW_.out (by kernel_rfl)) (fun _ _ _ h => h) (Or.inl ⟨by rfl, ?_⟩) hHeld ?_ ?_
          rotate_left
          · rintro w' ⟨s0, s1, s2, s3⟩
            go_simp; with_reducible rfl
          rotate_left
          · simp only [Act.put, List.setIfInBounds_toArray, List.set_cons_zero, List.set_cons_succ, i64_w, i32_w]
            rfl
          refine one_ (i := 2) (N := some 34) #[true,true,true,false,true,true,false,false,false,true,true,false,false,false,true,true,false,false,false] rfl rfl (one_of HT_.out (by kernel_rfl)) (by decide) (fun K hK => ?_)
          refine goes_ Tryd.func130 (by kernel_rfl) rfl #[.string q.f0] (by rfl) rfl rfl (by (try simp only [List.map_toArray, List.map_cons, List.map_nil]); first | done | rfl) ?_
          with_reducible refine (W_impl_escaped.calls q.f0 x0 _ X0.out).mono ?_
          rintro e wc ⟨rfl, hb⟩
          refine ⟨_, rfl, ?_⟩
          replace K7 := Aside0.mk (blk_below K7.out hb)
          replace HI := Aside0.mk (bBelow HI.out hb)
          replace HB := Aside0.mk (below_step HB.out hb)
          clear hb
          refine hK.out _ _ ⟨(blk_cell K7.out 0).trans rfl, (blk_cell K7.out 1).trans rfl, (blk_cell K7.out 2).trans rfl, (blk_cell K7.out 3).trans rfl⟩ (fun hHeld => ?_)
          clear hK K
          refine norm_ (a' := ?_) ?_ ?_
          rotate_left
          · show Act.put _ (some 34) _ = _
            simp only [Act.put, List.setIfInBounds_toArray, List.set_cons_zero, List.set_cons_succ, i64_w, i32_w]; rfl
          refine pure_ (i := 3) (N := some 35) (v := ?_) (a' := ?_) #[true,true,true,true,true,true,false,false,false,true,true,false,false,false,true,true,false,false,false] rfl rfl (any_of HT_.out (by kernel_rfl)) (fun _ _ _ h => h) (Or.inl ⟨by rfl, ?_⟩) ?_ ?_
          rotate_left
          · intro w'
            go_simp; with_reducible rfl
          rotate_left
          · simp only [Act.put, List.setIfInBounds_toArray, List.set_cons_zero, List.set_cons_succ, i64_w, i32_w]
            rfl
          refine one_ (i := 6) (N := some 38) #[true,true,true,true,true,true,true,false,false,true,true,false,false,false,true,true,false,false,false] rfl rfl (one_of HT_.out (by kernel_rfl)) (by decide) (fun K hK => ?_)
          refine goes_ Tryd.func130 (by kernel_rfl) rfl #[.string q.f1] (by rfl) rfl rfl (by (try simp only [List.map_toArray, List.map_cons, List.map_nil]); first | done | rfl) ?_
          with_reducible refine (W_impl_escaped.calls q.f1 x1 _ X1.out).mono ?_
          rintro e wc ⟨rfl, hb⟩
          refine ⟨_, rfl, ?_⟩
          replace K7 := Aside0.mk (blk_below K7.out hb)
          replace HI := Aside0.mk (bBelow HI.out hb)
          replace HB := Aside0.mk (below_step HB.out hb)
          clear hb
          refine hK.out _ _ ⟨(blk_cell K7.out 0).trans rfl, (blk_cell K7.out 1).trans rfl, (blk_cell K7.out 2).trans rfl, (blk_cell K7.out 3).trans rfl⟩ (fun hHeld => ?_)
          clear hK K
          refine norm_ (a' := ?_) ?_ ?_
          rotate_left
          · show Act.put _ (some 38) _ = _
            simp only [Act.put, List.setIfInBounds_toArray, List.set_cons_zero, List.set_cons_succ, i64_w, i32_w]; rfl
          refine pure_ (i := 7) (N := some 39) (v := ?_) (a' := ?_) #[true,true,true,true,true,true,true,true,false,true,true,false,false,false,true,true,false,false,false] rfl rfl (any_of HT_.out (by kernel_rfl)) (fun _ _ _ h => h) (Or.inl ⟨by rfl, ?_⟩) ?_ ?_
          rotate_left
          · intro w'
            go_simp; with_reducible rfl
          rotate_left
          · simp only [Act.put, List.setIfInBounds_toArray, List.set_cons_zero, List.set_cons_succ, i64_w, i32_w]
            rfl
          refine pure_ (i := 8) (N := some 40) (v := ?_) (a' := ?_) #[true,true,true,true,true,true,true,true,true,true,true,false,false,false,true,true,false,false,false] rfl rfl (any_of HT_.out (by kernel_rfl)) (fun _ _ _ h => h) (Or.inl ⟨by rfl, ?_⟩) ?_ ?_
          rotate_left
          · intro w'
            go_simp; with_reducible rfl
          rotate_left
          · simp only [Act.put, List.setIfInBounds_toArray, List.set_cons_zero, List.set_cons_succ, i64_w, i32_w]
            rfl
          refine one_ (i := 11) (N := some 43) #[true,true,true,true,true,true,true,true,true,true,true,true,false,false,true,true,false,false,false] rfl rfl (one_of HT_.out (by kernel_rfl)) (by decide) (fun K hK => ?_)
          refine goes_ Tryd.func130 (by kernel_rfl) rfl #[.string q.f2] (by rfl) rfl rfl (by (try simp only [List.map_toArray, List.map_cons, List.map_nil]); first | done | rfl) ?_
          with_reducible refine (W_impl_escaped.calls q.f2 x2 _ X2.out).mono ?_
          rintro e wc ⟨rfl, hb⟩
          refine ⟨_, rfl, ?_⟩
          replace K7 := Aside0.mk (blk_below K7.out hb)
          replace HI := Aside0.mk (bBelow HI.out hb)
          replace HB := Aside0.mk (below_step HB.out hb)
          clear hb
          refine hK.out _ _ ⟨(blk_cell K7.out 0).trans rfl, (blk_cell K7.out 1).trans rfl, (blk_cell K7.out 2).trans rfl, (blk_cell K7.out 3).trans rfl⟩ (fun hHeld => ?_)
          clear hK K
          refine norm_ (a' := ?_) ?_ ?_
          rotate_left
          · show Act.put _ (some 43) _ = _
            simp only [Act.put, List.setIfInBounds_toArray, List.set_cons_zero, List.set_cons_succ, i64_w, i32_w]; rfl
          refine pure_ (i := 12) (N := some 44) (v := ?_) (a' := ?_) #[true,true,true,true,true,true,true,true,true,true,true,true,true,false,true,true,false,false,false] rfl rfl (any_of HT_.out (by kernel_rfl)) (fun _ _ _ h => h) (Or.inl ⟨by rfl, ?_⟩) ?_ ?_
          rotate_left
          · intro w'
            go_simp; with_reducible rfl
          rotate_left
          · simp only [Act.put, List.setIfInBounds_toArray, List.set_cons_zero, List.set_cons_succ, i64_w, i32_w]
            rfl
          refine pure_ (i := 13) (N := some 45) (v := ?_) (a' := ?_) #[true,true,true,true,true,true,true,true,true,true,true,true,true,true,true,true,false,false,false] rfl rfl (any_of HT_.out (by kernel_rfl)) (fun _ _ _ h => h) (Or.inl ⟨by rfl, ?_⟩) ?_ ?_
          rotate_left
          · intro w'
            go_simp; with_reducible rfl
          rotate_left
          · simp only [Act.put, List.setIfInBounds_toArray, List.set_cons_zero, List.set_cons_succ, i64_w, i32_w]
            rfl
          refine one_ (i := 16) (N := some 48) #[true,true,true,true,true,true,true,true,true,true,true,true,true,true,true,true,true,false,false] rfl rfl (one_of HT_.out (by kernel_rfl)) (by decide) (fun K hK => ?_)
          refine goes_ Tryd.func130 (by kernel_rfl) rfl #[.string q.f3] (by rfl) rfl rfl (by (try simp only [List.map_toArray, List.map_cons, List.map_nil]); first | done | rfl) ?_
          with_reducible refine (W_impl_escaped.calls q.f3 x3 _ X3.out).mono ?_
          rintro e wc ⟨rfl, hb⟩
          refine ⟨_, rfl, ?_⟩
          replace K7 := Aside0.mk (blk_below K7.out hb)
          replace HI := Aside0.mk (bBelow HI.out hb)
          replace HB := Aside0.mk (below_step HB.out hb)
          clear hb
          refine hK.out _ _ ⟨(blk_cell K7.out 0).trans rfl, (blk_cell K7.out 1).trans rfl, (blk_cell K7.out 2).trans rfl, (blk_cell K7.out 3).trans rfl⟩ (fun hHeld => ?_)
          clear hK K
          refine norm_ (a' := ?_) ?_ ?_
          rotate_left
          · show Act.put _ (some 48) _ = _
            simp only [Act.put, List.setIfInBounds_toArray, List.set_cons_zero, List.set_cons_succ, i64_w, i32_w]; rfl
          refine pure_ (i := 17) (N := some 49) (v := ?_) (a' := ?_) #[true,true,true,true,true,true,true,true,true,true,true,true,true,true,true,true,true,true,false] rfl rfl (any_of HT_.out (by kernel_rfl)) (fun _ _ _ h => h) (Or.inl ⟨by rfl, ?_⟩) ?_ ?_
          rotate_left
          · intro w'
            go_simp; with_reducible rfl
          rotate_left
          · simp only [Act.put, List.setIfInBounds_toArray, List.set_cons_zero, List.set_cons_succ, i64_w, i32_w]
            rfl
          refine one_ (i := 18) (N := some 50) #[true,true,true,true,true,true,true,true,true,true,true,true,true,true,true,true,true,true,true] rfl rfl (one_of HT_.out (by kernel_rfl)) (by decide) (fun K hK => ?_)
          refine goes_ Tryd.func129 (by kernel_rfl) rfl #[.pointer (some ⟨b, 0, none⟩), .string (((((((x0 ++ (⟨#[91]⟩ : ByteArray)) ++ x1) ++ (⟨#[93]⟩ : ByteArray)) ++ x2) ++ (⟨#[32, 62, 32]⟩ : ByteArray)) ++ x3))] (by rfl) rfl rfl (by (try simp only [List.map_toArray, List.map_cons, List.map_nil]); first | done | rfl) ?_
          refine (bWrite w.heap.size b _ _ _ HI.out hlen HB.out.size).mono ?_
          rintro e wc ⟨rfl, hI3, hb3, hk3⟩
          refine ⟨_, rfl, ?_⟩
          replace K7 := Aside0.mk (hk3 g7 _ K7.out (by intro h; injection h with h; have := HB7.out; omega) (by intro c fz h; cases h))
          replace HB := Aside0.mk (HB.out.trans hb3)
          replace HI := Aside0.mk hI3
          clear hI3 hb3 hk3
          refine hK.out _ _ ⟨(blk_cell K7.out 0).trans rfl, (blk_cell K7.out 1).trans rfl, (blk_cell K7.out 2).trans rfl, (blk_cell K7.out 3).trans rfl⟩ (fun hHeld => ?_)
          clear hK K
          refine norm_ (a' := ?_) ?_ ?_
          rotate_left
          · show Act.put _ (some 50) _ = _
            simp only [Act.put, List.setIfInBounds_toArray, List.set_cons_zero, List.set_cons_succ, i64_w, i32_w]; rfl
          refine done_ (done_of HT_.out (by kernel_rfl)) ?_
          --REGION11 END
          obtain ⟨Y, hYe⟩ : ∃ Y, YtiabgmddnddeiaaDoorShp.esc (bytesOf q.f0) ++ [91] ++ YtiabgmddnddeiaaDoorShp.esc (bytesOf q.f1) ++ [93] ++ YtiabgmddnddeiaaDoorShp.esc (bytesOf q.f2) ++ [32, 62, 32] ++ YtiabgmddnddeiaaDoorShp.esc (bytesOf q.f3) = Y := ⟨_, rfl⟩
          have hY : (((((((x0 ++ (⟨#[91]⟩ : ByteArray)) ++ x1) ++ (⟨#[93]⟩ : ByteArray)) ++ x2) ++ (⟨#[32, 62, 32]⟩ : ByteArray)) ++ x3)) = strOfNums Y := by
            rw [← e0, ← e1, ← e2, ← e3, show (⟨#[91]⟩ : ByteArray) = strOfNums [91] from rfl, show (⟨#[93]⟩ : ByteArray) = strOfNums [93] from rfl, show (⟨#[32, 62, 32]⟩ : ByteArray) = strOfNums [32, 62, 32] from rfl, ← hYe]
            simp only [nums_app]
          have hYl : Y.length ≤ 8005 := by
            have := congrArg ByteArray.size hY
            rw [nums_size] at this
            simp only [ByteArray.size_append] at this
            have a1 : (⟨#[91]⟩ : ByteArray).size = 1 := rfl
            have a2 : (⟨#[93]⟩ : ByteArray).size = 1 := rfl
            have a3 : (⟨#[32, 62, 32]⟩ : ByteArray).size = 3 := rfl
            omega
          have hline : impl_ShowPasses.line q = Y ++ YtiabgmddnddeiaaDoorShp.bars q.f4 ++ [10] := by rw [← hYe]; rfl
          have HI5 := HI.out
          rw [hY, strCells_app, nums_app] at HI5
          replace HI := Aside0.mk HI5
          rw [List.length_append] at hpl
          clear HI5 hY f1 f2 f3 f4 f5 f6 X0 X1 X2 X3 hlen y0 y1 y2 y3 hHeld HT_ HW_
          have hbars : (YtiabgmddnddeiaaDoorShp.bars q.f4).length ≤ 1001 := by unfold YtiabgmddnddeiaaDoorShp.bars; have := hqf.2.2.2.2; split <;> simp <;> omega
          have k4 := (blk_cell K7.out 4).trans rfl
          by_cases hq4 : 0 < q.f4
          · obtain ⟨ag, hag⟩ : ∃ n : Nat, q.f4 = n := ⟨q.f4.toNat, by omega⟩
            have hag1 : ag ≤ 1000 := by have := hqf.2.2.2.2; omega
            have hbe : YtiabgmddnddeiaaDoorShp.bars q.f4 = 32 :: List.replicate ag 124 := by unfold YtiabgmddnddeiaaDoorShp.bars; rw [if_pos hq4, hag, Int.toNat_natCast]
            rw [hag] at k4
            have hqb : decide ((0 : Int) < (ag : Int)) = true := decide_eq_true (by omega)
            have hqb2 : decide (0 < ag) = true := decide_eq_true (by omega)
            have hrep : (⟨(Lib.repeatL (⟨#[124]⟩ : ByteArray).data.toList ag).toArray⟩ : ByteArray) = strOfNums (List.replicate ag 124) := rep_eq ag
            have hlen1 : (Lib.strCells (strOfNums ((impl_ShowPasses.all (l0.take i) ++ (impl_ShowPasses.head p ++ (p.f0.take j).flatMap impl_ShowPasses.line)) ++ Y))).length + ((⟨#[32]⟩ : ByteArray) ++ strOfNums (List.replicate ag 124)).size ≤ 140737488355328 := by
              rw [Lib.strCells_length, nums_size, List.length_append, List.length_append, List.length_append, ByteArray.size_append, nums_size, List.length_replicate]
              have e : (⟨#[32]⟩ : ByteArray).size = 1 := rfl
              omega
            have z1 : (9223372036854775807 < 1 + (strOfNums (List.replicate ag 124)).size) = False := eq_false (by rw [nums_size, List.length_replicate]; omega)
            go_upto_region 14 with (first
              | (go_at_call 131; refine (Tryd.strings_Repeat (⟨#[124]⟩ : ByteArray) ag _ (by omega) (by show 1 * ag ≤ _; omega)).mono ?_; rintro e wd ⟨rfl, hb⟩; rw [hrep]; replace HI := Aside0.mk (bBelow HI.out hb); replace HB := Aside0.mk (below_step HB.out hb); clear hb)
              | (go_at_call 129; refine (bWrite w.heap.size b _ _ _ HI.out hlen1 HB.out.size).mono ?_; rintro e we ⟨rfl, hI3, hb3, hk3⟩; replace HB := Aside0.mk (HB.out.trans hb3)))
            rw [show (⟨#[32]⟩ : ByteArray) = strOfNums [32] from rfl, nums_app, strCells_app, nums_app] at hI3
            rw [show [32] ++ List.replicate ag 124 = YtiabgmddnddeiaaDoorShp.bars q.f4 by rw [hbe]; rfl] at hI3
            replace HI := Aside0.mk hI3
            clear hI3 hb3 hk3
            have hlen2 : (Lib.strCells (strOfNums ((impl_ShowPasses.all (l0.take i) ++ (impl_ShowPasses.head p ++ (p.f0.take j).flatMap impl_ShowPasses.line)) ++ Y ++ YtiabgmddnddeiaaDoorShp.bars q.f4))).length + (⟨#[10]⟩ : ByteArray).size ≤ 140737488355328 := by
              rw [Lib.strCells_length, nums_size]
              simp only [List.length_append]
              have e : (⟨#[10]⟩ : ByteArray).size = 1 := rfl
              omega
            go_wp2_with (go_at_call 129; refine (bWrite w.heap.size b _ _ _ HI.out hlen2 HB.out.size).mono ?_; rintro e wf ⟨rfl, hI3, hb3, hk3⟩)
            refine ⟨⟨j + 1, hjl, by rw [Int.natCast_add]; rfl, ⟨?_⟩, ⟨HB.out.trans hb3⟩⟩, ?_⟩
            · rw [show (⟨#[10]⟩ : ByteArray) = strOfNums [10] from rfl, strCells_app, nums_app] at hI3
              have e : impl_ShowPasses.all (l0.take i) ++ (impl_ShowPasses.head p ++ (p.f0.take (j + 1)).flatMap impl_ShowPasses.line) = (impl_ShowPasses.all (l0.take i) ++ (impl_ShowPasses.head p ++ (p.f0.take j).flatMap impl_ShowPasses.line)) ++ Y ++ YtiabgmddnddeiaaDoorShp.bars q.f4 ++ [10] := by
                rw [List.take_succ_eq_append_getElem hjl, List.flatMap_append, HQ.out, List.flatMap_singleton, hline]
                simp only [List.append_assoc]
              rw [e]
              exact hI3
            · simp only [intOf]; omega
          · have hqb : decide ((0 : Int) < q.f4) = false := decide_eq_false hq4
            have hbe : YtiabgmddnddeiaaDoorShp.bars q.f4 = [] := by unfold YtiabgmddnddeiaaDoorShp.bars; rw [if_neg hq4]
            go_upto_region 14 with (fail)
            replace HI := Aside0.mk (show Lib.IsBuilderF 112 5 w.heap.size b (Lib.strCells (strOfNums ((impl_ShowPasses.all (l0.take i) ++ (impl_ShowPasses.head p ++ (p.f0.take j).flatMap impl_ShowPasses.line)) ++ Y ++ YtiabgmddnddeiaaDoorShp.bars q.f4))) _ by rw [hbe, List.append_nil]; exact HI.out)
            have hlen2 : (Lib.strCells (strOfNums ((impl_ShowPasses.all (l0.take i) ++ (impl_ShowPasses.head p ++ (p.f0.take j).flatMap impl_ShowPasses.line)) ++ Y ++ YtiabgmddnddeiaaDoorShp.bars q.f4))).length + (⟨#[10]⟩ : ByteArray).size ≤ 140737488355328 := by
              rw [Lib.strCells_length, nums_size]
              simp only [List.length_append]
              have e : (⟨#[10]⟩ : ByteArray).size = 1 := rfl
              omega
            go_wp2_with (go_at_call 129; refine (bWrite w.heap.size b _ _ _ HI.out hlen2 HB.out.size).mono ?_; rintro e wf ⟨rfl, hI3, hb3, hk3⟩)
            refine ⟨⟨j + 1, hjl, by rw [Int.natCast_add]; rfl, ⟨?_⟩, ⟨HB.out.trans hb3⟩⟩, ?_⟩
            · rw [show (⟨#[10]⟩ : ByteArray) = strOfNums [10] from rfl, strCells_app, nums_app] at hI3
              have e : impl_ShowPasses.all (l0.take i) ++ (impl_ShowPasses.head p ++ (p.f0.take (j + 1)).flatMap impl_ShowPasses.line) = (impl_ShowPasses.all (l0.take i) ++ (impl_ShowPasses.head p ++ (p.f0.take j).flatMap impl_ShowPasses.line)) ++ Y ++ YtiabgmddnddeiaaDoorShp.bars q.f4 ++ [10] := by
                rw [List.take_succ_eq_append_getElem hjl, List.flatMap_append, HQ.out, List.flatMap_singleton, hline]
                simp only [List.append_assoc]
              rw [e]
              exact hI3
            · simp only [intOf]; omega
        · obtain rfl : j = p.f0.length := by omega
          have hjb : decide (p.f0.length < p.f0.length) = false := decide_eq_false (by omega)
          have q3 : ((p.f0.length : Int) < (p.f0.length : Int)) = False := eq_false (by omega)
          have q3b : decide ((p.f0.length : Int) < (p.f0.length : Int)) = false := decide_eq_false (by omega)
          go_wp2_with fail
          have hi3 : i ≤ 1000 := by have := HF.out.1; omega
          have hw : wrap64 ((i : Int) + 1) = ((i + 1 : Nat) : Int) := by unfold wrap64; omega
          refine ⟨⟨i + 1, hlt, by rw [hw], ⟨?_⟩, HB⟩, ?_⟩
          · have e : impl_ShowPasses.all (l0.take (i + 1)) = impl_ShowPasses.all (l0.take i) ++ (impl_ShowPasses.head p ++ (p.f0.take p.f0.length).flatMap impl_ShowPasses.line) := by
              unfold impl_ShowPasses.all
              rw [List.take_succ_eq_append_getElem hlt, List.flatMap_append, HP.out, List.flatMap_singleton, List.take_length]
              rfl
            rw [e]
            exact HI.out
          · rw [hw]; simp only [intOf]; omega
    · obtain rfl : i = l0.length := by omega
      have q3 : ((l0.length : Int) < (l0.length : Int)) = False := eq_false (by omega)
      have q3b : decide ((l0.length : Int) < (l0.length : Int)) = false := decide_eq_false (by omega)
      have hI := HI.out
      rw [List.take_length] at hI
      obtain ⟨acc, hacc⟩ : ∃ a, strOfNums (impl_ShowPasses.all l0) = a := ⟨_, rfl⟩
      have HS2 : Aside0 (impl_short.f acc = some r) := ⟨by rw [← hacc]; exact HS.out⟩
      rw [hacc] at hI
      have hrx : (⟨acc.data.toList.toArray⟩ : ByteArray) = acc := by cases acc; simp
      go_wp2_with (first
        | (go_at_call 132; refine (Tryd.Builder_String_any_k w.heap.size b acc.data.toList _ hI HB.out.size).mono ?_; rintro e wf ⟨rfl, hI3, hb3, hk3⟩; rw [hrx]; replace HB := Aside0.mk (HB.out.trans hb3))
        | (go_at_call 88; (with_reducible refine (impl_short.calls acc r _ HS2.out).mono ?_); rintro e wg ⟨rfl, ⟨nd, rfl⟩⟩))
      go_ret
      exact ⟨rfl, pw_below_drewN HB.out nd⟩
set_option maxHeartbeats 8000000 in
set_option maxRecDepth 100000 in
theorem impl_ShowPasses.fault (k : Nat) (A0 : Option Addr) (c0 : Nat) (l0 : List (S106)) (w : World) (hr0 : Kd.C k106 w A0 l0.length l0) (hc0 : l0.length ≤ c0) (e0 : Int) (h0 : impl_PassesFault.f k l0 = some e0) (hne : e0 ≠ 0) (hG : GT w) :
    Calls Tryd.prog 41 #[.slice A0 l0.length c0] w fun e w' => e = .returned (.string ⟨#[]⟩) ∧ Below w.heap.size w w' := by
  have HG := Aside0.mk hG
  have HR0 := Aside0.mk hr0
  have HC0 := Aside0.mk hc0
  have HH := Aside0.mk h0
  have hb1 : (e0 == 0) = false := by simpa using hne
  have hb2 : (e0 != 0) = true := by simpa using hne
  clear hG hr0 hc0 h0
  go_enter Tryd.func41, Tryd.ntmps41
  go_wp2_with (first | (go_at_call 128; (with_reducible refine (impl_PassesFault.calls k _ _ l0 e0 _ HR0.out HC0.out HH.out HG.out).mono ?_); rintro e w1 ⟨rfl, hb⟩))
  go_ret
  exact ⟨rfl, hb⟩
theorem impl_ShowPasses.calls (k : Nat) (A0 : Option Addr) (c0 : Nat) (l0 : List (S106)) (r : ByteArray) (w : World) (hr0 : Kd.C k106 w A0 l0.length l0) (hc0 : l0.length ≤ c0) (h : impl_ShowPasses.f k l0 = some r) (hG : GT w) :
    Calls Tryd.prog 41 #[.slice A0 l0.length c0] w fun e w' => e = .returned (.string r) ∧ Below w.heap.size w w' := by
  unfold impl_ShowPasses.f at h
  obtain ⟨e0, he, h⟩ := Option.bind_eq_some_iff.1 h
  by_cases z : e0 = 0
  · subst z
    rw [if_pos rfl] at h
    unfold impl_ShowPasses.g at h
    split at h
    · rename_i hf
      exact impl_ShowPasses.run k A0 c0 l0 w hr0 hc0 he ((impl_ShowPasses.fitB_iff l0).1 hf) r h hG
    · cases h
  · rw [if_neg z] at h
    obtain rfl := Option.some.inj h
    exact impl_ShowPasses.fault k A0 c0 l0 w hr0 hc0 e0 he z hG

end Go.Proofs.YtiabgmddnddeiaaDoor.QFnExactShowPasses
