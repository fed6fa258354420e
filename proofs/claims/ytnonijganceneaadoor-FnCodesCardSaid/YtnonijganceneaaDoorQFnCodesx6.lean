/- The law FnCodes: at every input the call answers true (this text: contracts on its way, by a program of this session's; no condition of ours). -/
import Derived.Test.YtnonijganceneaaDoorQFnCodesx0
namespace Go.Proofs.YtnonijganceneaaDoor.QFnCodes
open Go.RowKit Go.Proofs.YtnonijganceneaaDoorW.PrintWords Go.Proofs.YtnonijganceneaaDoorW.PrintLast Go.Proofs.YtnonijganceneaaDoorW.PrintMore
attribute [local go_sem] max2_int min2_int max_two min_two max_three min_three max_four min_four   -- for this text's walks alone
set_option linter.unusedVariables false
set_option linter.unusedSimpArgs false

/-- A state of type 145 at block g of W; what its slices lead to came in by w0. -/
def IsS145 (w0 W : World) (g : Nat) (f0 : List Int) (f1 : Int) (f2 : Int) (f3 : Int) : Prop := ∃ A0 c0, W.heap[g]? = some (.cells #[.slice A0 f0.length c0, .int .i64 f1, .int .u64 f2, .int .i64 f3] 145 (0, 0)) ∧ w0.heap.size ≤ g ∧ Kd.C (Kd.int .u8) w0 A0 f0.length f0
theorem IsS145.grown {w0 W : World} {g : Nat} {f0 : List Int} {f1 : Int} {f2 : Int} {f3 : Int} {W1 : World} {row : Option Nat} (h : IsS145 w0 W g f0 f1 f2 f3) (hw : W.grownBy W1 row) (hne : some g ≠ row) : IsS145 w0 W1 g f0 f1 f2 f3 := by
  obtain ⟨A0, c0, hb, hg, hr0⟩ := h
  exact ⟨A0, c0, blk_grown hb hw hne, hg, hr0⟩
theorem IsS145.own_neN {w0 W : World} {g : Nat} {f0 : List Int} {f1 : Int} {f2 : Int} {f3 : Int} {α : Type} {d : Kd α} {e : Nat} {base : Nat} {ok : Nat → Prop} {v : Value} {xs : List α} (h : IsS145 w0 W g f0 f1 f2 f3) (ho : Kd.N d e W base ok v xs) (ht : e ≠ 145) : some g ≠ v.ownBlock := by
  obtain ⟨A0, c0, hb, hg, hr0⟩ := h
  exact Kd.N_ne ho hb ht
theorem IsS145.fresh {w0 W : World} {g : Nat} {f0 : List Int} {f1 : Int} {f2 : Int} {f3 : Int} (h : IsS145 w0 W g f0 f1 f2 f3) : ∀ k, W.heap.size ≤ k → k ≠ g := by
  obtain ⟨A0, c0, hb, hg, hr0⟩ := h
  exact Kd.freshB hb
theorem IsS145.kept {w0 W : World} {g : Nat} {f0 : List Int} {f1 : Int} {f2 : Int} {f3 : Int} {W1 : World} {S : Nat → Prop} (h : IsS145 w0 W g f0 f1 f2 f3) (hk : Kept W W1 S) (hne : ¬ S g) : IsS145 w0 W1 g f0 f1 f2 f3 := by
  obtain ⟨A0, c0, hb, hg, hr0⟩ := h
  exact ⟨A0, c0, blk_kept hb hk hne, hg, hr0⟩
theorem IsS145.below {w0 W : World} {g : Nat} {f0 : List Int} {f1 : Int} {f2 : Int} {f3 : Int} {W1 : World} (h : IsS145 w0 W g f0 f1 f2 f3) (hw : Below W.heap.size W W1) : IsS145 w0 W1 g f0 f1 f2 f3 := h.grown (grown_of_below hw none) (by simp)
theorem IsS145.alloc {w0 W : World} {g : Nat} {f0 : List Int} {f1 : Int} {f2 : Int} {f3 : Int} (h : IsS145 w0 W g f0 f1 f2 f3) (o : Obj) : IsS145 w0 (W.alloc o) g f0 f1 f2 f3 := h.below (below_alloc (Below.refl _ _) o)
theorem IsS145.drewN {w0 W : World} {g : Nat} {f0 : List Int} {f1 : Int} {f2 : Int} {f3 : Int} (h : IsS145 w0 W g f0 f1 f2 f3) (m : Nat) : IsS145 w0 (W.drewN m) g f0 f1 f2 f3 := h
theorem IsS145.drew {w0 W : World} {g : Nat} {f0 : List Int} {f1 : Int} {f2 : Int} {f3 : Int} (h : IsS145 w0 W g f0 f1 f2 f3) : IsS145 w0 W.drew g f0 f1 f2 f3 := h
theorem IsS145.at_ {w0 W : World} {g : Nat} {f0 : List Int} {f1 : Int} {f2 : Int} {f3 : Int} {w' : World} {m : Nat} (hq : W.drewN m = w') (h : IsS145 w0 W g f0 f1 f2 f3) : IsS145 w0 w' g f0 f1 f2 f3 := by subst hq; exact IsS145.drewN h m
theorem IsS145.apart {w0 W : World} {g : Nat} {f0 : List Int} {f1 : Int} {f2 : Int} {f3 : Int} {α : Type} {d : Kd α} {e : Nat} {base : Nat} {ok : Nat → Prop} {v : Value} {xs : List α} (h : IsS145 w0 W g f0 f1 f2 f3) (ho : d.R e W base ok v xs) (ht : ∀ q, q ∈ e :: d.E → q ≠ 145) : d.R e W base (fun k => ok k ∧ k ≠ g) v xs := by
  obtain ⟨A0, c0, hb, hg, hr0⟩ := h
  exact Kd.R_types ho hb ht
theorem IsS145.own_ne {w0 W : World} {g : Nat} {f0 : List Int} {f1 : Int} {f2 : Int} {f3 : Int} {α : Type} {d : Kd α} {e : Nat} {base : Nat} {ok : Nat → Prop} {v : Value} {xs : List α} (h : IsS145 w0 W g f0 f1 f2 f3) (ho : d.R e W base ok v xs) (ht : e ≠ 145) : some g ≠ v.ownBlock := by
  obtain ⟨A0, c0, hb, hg, hr0⟩ := h
  exact Kd.R_ne ho hb ht
theorem IsS145.apartQ {w0 W : World} {g : Nat} {f0 : List Int} {f1 : Int} {f2 : Int} {f3 : Int} {α : Type} {d : Kd α} {e : Nat} {base : Nat} {ok : Nat → Prop} {v : Value} {xs : List α} (h : IsS145 w0 W g f0 f1 f2 f3) (ho : d.Q e W base ok v xs) (ht : ∀ q, q ∈ e :: d.E → q ≠ 145) : d.Q e W base (fun k => ok k ∧ k ≠ g) v xs := by
  obtain ⟨A0, c0, hb, hg, hr0⟩ := h
  exact Kd.Q_types ho hb ht
theorem IsS145.own_neQ {w0 W : World} {g : Nat} {f0 : List Int} {f1 : Int} {f2 : Int} {f3 : Int} {α : Type} {d : Kd α} {e : Nat} {base : Nat} {ok : Nat → Prop} {v : Value} {xs : List α} (h : IsS145 w0 W g f0 f1 f2 f3) (ho : d.Q e W base ok v xs) (ht : e ≠ 145) : some g ≠ v.ownBlock := by
  obtain ⟨A0, c0, hb, hg, hr0⟩ := h
  exact Kd.Q_ne ho hb ht
theorem IsS145.apartS {w0 W : World} {g : Nat} {f0 : List Int} {f1 : Int} {f2 : Int} {f3 : Int} {α : Type} {d : Kd α} {e : Nat} {base : Nat} {ok : Nat → Prop} {v : Value} {xs : List α} (h : IsS145 w0 W g f0 f1 f2 f3) (ho : d.S e W base ok v xs) (ht : ∀ q, q ∈ e :: d.E → q ≠ 145) : d.S e W base (fun k => ok k ∧ k ≠ g) v xs := by
  obtain ⟨A0, c0, hb, hg, hr0⟩ := h
  exact Kd.S_types ho hb ht
theorem IsS145.own_neS {w0 W : World} {g : Nat} {f0 : List Int} {f1 : Int} {f2 : Int} {f3 : Int} {α : Type} {d : Kd α} {e : Nat} {base : Nat} {ok : Nat → Prop} {v : Value} {xs : List α} (h : IsS145 w0 W g f0 f1 f2 f3) (ho : d.S e W base ok v xs) (ht : e ≠ 145) : some g ≠ v.ownBlock := by
  obtain ⟨A0, c0, hb, hg, hr0⟩ := h
  exact Kd.S_ne ho hb ht
theorem IsS145.lt {w0 W : World} {g : Nat} {f0 : List Int} {f1 : Int} {f2 : Int} {f3 : Int} (h : IsS145 w0 W g f0 f1 f2 f3) : g < W.heap.size := by
  obtain ⟨A0, c0, hb, hg, hr0⟩ := h
  exact blk_lt hb
theorem IsS145.ge {w0 W : World} {g : Nat} {f0 : List Int} {f1 : Int} {f2 : Int} {f3 : Int} (h : IsS145 w0 W g f0 f1 f2 f3) : w0.heap.size ≤ g := by
  obtain ⟨A0, c0, hb, hg, hr0⟩ := h
  exact hg
theorem IsS145.ne_blk {w0 W : World} {g : Nat} {f0 : List Int} {f1 : Int} {f2 : Int} {f3 : Int} {a : Nat} {cs : Array Value} {t : TypeId} {fr : Nat × Nat} (h : IsS145 w0 W g f0 f1 f2 f3) (hb2 : W.heap[a]? = some (.cells cs t fr)) (ht : t ≠ 145) : g ≠ a := by
  obtain ⟨A0, c0, hb, hg, hr0⟩ := h
  rintro rfl
  rw [hb] at hb2
  injection hb2 with hb2
  injection hb2 with _ ht2
  exact ht ht2.symm
theorem IsS145.far {w0 W : World} {g : Nat} {f0 : List Int} {f1 : Int} {f2 : Int} {f3 : Int} {p : Addr} (h : IsS145 w0 W g f0 f1 f2 f3) (hne : g ≠ p.block) (u : Value) : IsS145 w0 (W.setCell p u) g f0 f1 f2 f3 := by
  obtain ⟨A0, c0, hb, hg, hr0⟩ := h
  exact ⟨A0, c0, blk_far hb hne u, hg, hr0⟩
theorem cellS145_0 {W : World} {g : Nat} {A0 : Option Addr} {c0 : Nat} {f0 : List Int} {f1 : Int} {f2 : Int} {f3 : Int} (h : W.heap[g]? = some (.cells #[.slice A0 f0.length c0, .int .i64 f1, .int .u64 f2, .int .i64 f3] 145 (0, 0))) : W.cell? ⟨g, 0, none⟩ = some (.slice A0 f0.length c0) := (blk_cell h 0).trans rfl
theorem cellS145_1 {W : World} {g : Nat} {A0 : Option Addr} {c0 : Nat} {f0 : List Int} {f1 : Int} {f2 : Int} {f3 : Int} (h : W.heap[g]? = some (.cells #[.slice A0 f0.length c0, .int .i64 f1, .int .u64 f2, .int .i64 f3] 145 (0, 0))) : W.cell? ⟨g, 1, none⟩ = some (.int .i64 f1) := (blk_cell h 1).trans rfl
theorem IsS145.set_1 {w0 W : World} {g : Nat} {f0 : List Int} {f1 : Int} {f2 : Int} {f3 : Int} (h : IsS145 w0 W g f0 f1 f2 f3) (x : Int) : IsS145 w0 (W.setCell ⟨g, 1, none⟩ (.int .i64 x)) g f0 x f2 f3 := by
  obtain ⟨A0, c0, hb, hg, hr0⟩ := h
  exact ⟨A0, c0, by simpa using blk_set hb 1 (.int .i64 x), hg, hr0⟩
theorem cellS145_2 {W : World} {g : Nat} {A0 : Option Addr} {c0 : Nat} {f0 : List Int} {f1 : Int} {f2 : Int} {f3 : Int} (h : W.heap[g]? = some (.cells #[.slice A0 f0.length c0, .int .i64 f1, .int .u64 f2, .int .i64 f3] 145 (0, 0))) : W.cell? ⟨g, 2, none⟩ = some (.int .u64 f2) := (blk_cell h 2).trans rfl
theorem IsS145.set_2 {w0 W : World} {g : Nat} {f0 : List Int} {f1 : Int} {f2 : Int} {f3 : Int} (h : IsS145 w0 W g f0 f1 f2 f3) (x : Int) : IsS145 w0 (W.setCell ⟨g, 2, none⟩ (.int .u64 x)) g f0 f1 x f3 := by
  obtain ⟨A0, c0, hb, hg, hr0⟩ := h
  exact ⟨A0, c0, by simpa using blk_set hb 2 (.int .u64 x), hg, hr0⟩
theorem cellS145_3 {W : World} {g : Nat} {A0 : Option Addr} {c0 : Nat} {f0 : List Int} {f1 : Int} {f2 : Int} {f3 : Int} (h : W.heap[g]? = some (.cells #[.slice A0 f0.length c0, .int .i64 f1, .int .u64 f2, .int .i64 f3] 145 (0, 0))) : W.cell? ⟨g, 3, none⟩ = some (.int .i64 f3) := (blk_cell h 3).trans rfl
theorem IsS145.set_3 {w0 W : World} {g : Nat} {f0 : List Int} {f1 : Int} {f2 : Int} {f3 : Int} (h : IsS145 w0 W g f0 f1 f2 f3) (x : Int) : IsS145 w0 (W.setCell ⟨g, 3, none⟩ (.int .i64 x)) g f0 f1 f2 x := by
  obtain ⟨A0, c0, hb, hg, hr0⟩ := h
  exact ⟨A0, c0, by simpa using blk_set hb 3 (.int .i64 x), hg, hr0⟩
theorem IsS145.new (w0 W : World) (A0 : Option Addr) (c0 : Nat) (f0 : List Int) (f1 : Int) (f2 : Int) (f3 : Int) (hB : Below w0.heap.size w0 W) (hr0 : Kd.C (Kd.int .u8) w0 A0 f0.length f0) : IsS145 w0 (W.alloc (.cells #[.slice A0 f0.length c0, .int .i64 f1, .int .u64 f2, .int .i64 f3] 145)) W.heap.size f0 f1 f2 f3 := ⟨A0, c0, by simpa using heap_alloc_new W _, hB.size, hr0⟩

/-! ### spec_l01Source: function 73 (by hand) -/
def spec_l01Source.step (m c : Int) : Int := IntKind.u64.wrap (Go.bits .xor .u64 m (IntKind.u64.wrap c) * 1099511628211)
def spec_l01Source.mix (l : List Int) : Nat → Int
  | 0 => 88172645463325252
  | k + 1 => spec_l01Source.step (spec_l01Source.mix l k) (rd l (k : Int))
def spec_l01Source.f (l0 : List Int) : Option (List Int × Int × Int × Int) :=
  if l0.length ≤ 140737488355328 then some (l0, 0, spec_l01Source.mix l0 (if l0.length < 64 then l0.length else 64), if 12 < (l0.length : Int) / 20 then 12 else (l0.length : Int) / 20) else none
set_option maxHeartbeats 2000000 in
set_option maxRecDepth 100000 in
theorem spec_l01Source.calls (A0 : Option Addr) (c0 : Nat) (l0 : List Int) (r1 : List Int) (r2 : Int) (r3 : Int) (r4 : Int) (w0 w : World) (hB : Below w0.heap.size w0 w) (hr0 : Kd.C (Kd.int .u8) w0 A0 l0.length l0) (hc0 : l0.length ≤ c0) (h : spec_l01Source.f l0 = some (r1, r2, r3, r4)) :
    Calls Tryd.prog 73 #[.slice A0 l0.length c0] w fun e w' => ∃ g_ : Nat, e = .returned (.pointer (some ⟨g_, 0, none⟩)) ∧ IsS145 w0 w' g_ r1 r2 r3 r4 ∧ Below w0.heap.size w0 w' ∧ Below w.heap.size w w' := by
  by_cases hlen : l0.length ≤ 140737488355328
  · unfold spec_l01Source.f at h
    rw [if_pos hlen] at h
    simp only [Option.some.injEq, Prod.mk.injEq] at h
    obtain ⟨rfl, rfl, h3, h4⟩ := h
    have h3 := Aside0.mk h3
    have h4 := Aside0.mk h4
    have HB0 := Aside0.mk hB
    have HR := Aside0.mk hr0
    clear hB hr0
    have hbl : l0.length ≤ 9223372036854775807 := by omega
    have HN := Aside0.mk (heap_alloc_new w (.cells #[.slice A0 l0.length c0, .int .i64 0, .int .u64 88172645463325252, .int .i64 0] 145 (0, 0)))
    go_enter Tryd.func73, Tryd.ntmps73
    go_wp2
    go_loopw [4] (fun i wr => ∃ k : Nat, k ≤ l0.length ∧ k ≤ 64 ∧ i = .int .i64 k ∧ Aside0 (wr.heap[w.heap.size]? = some (.cells #[.slice A0 l0.length c0, .int .i64 0, .int .u64 (spec_l01Source.mix l0 k), .int .i64 0] 145 (0, 0))) ∧ Aside0 (Below w.heap.size w wr)) (fun i _ => 64 - (intOf i).toNat)
    case atStart =>
      exact ⟨0, Nat.zero_le _, Nat.zero_le _, rfl, HN, ⟨below_alloc (Below.refl _ _) _⟩⟩
    case round =>
      obtain ⟨k, hk, hk2, rfl, HBK, HB⟩ := hrel
      have k0 := (blk_cell HBK.out 0).trans rfl
      have k2 := (blk_cell HBK.out 2).trans rfl
      have k3 := (blk_cell HBK.out 3).trans rfl
      have z2 := blk_frozen HBK.out 2
      have z3 := blk_frozen HBK.out 3
      by_cases c1 : k < l0.length
      · by_cases c2 : k < 64
        · have p1 : (0 : Int) ≤ (k : Int) := by omega
          have p2 : (k : Int) < (l0.length : Int) := by omega
          obtain ⟨ad, e119, hx0⟩ := Kd.at_int HR.out (k : Int) p1 p2
          cases e119
          have hx1 := (HB0.out.cell (World.block_lt_of_cell? w0 _ hx0)).trans hx0
          replace hx0 := (HB.out.cell (World.block_lt_of_cell? w _ hx1)).trans hx1
          clear hx1
          obtain ⟨m, hm⟩ : ∃ m, spec_l01Source.mix l0 k = m := ⟨_, rfl⟩
          rw [hm] at k2 HBK
          have hm := Aside0.mk hm
          clear p1 p2
          simp only [Int.toNat_natCast] at hx0
          go_wp2
          go_region
          go_wp2
          go_roundw
          case rel =>
            refine ⟨k + 1, by omega, by omega, by go_num, ⟨?_⟩, ⟨?_⟩⟩
            · have e : spec_l01Source.mix l0 (k + 1) = IntKind.u64.wrap (Go.bits .xor .u64 m (IntKind.u64.wrap (rd l0 (k : Int))) * 1099511628211) := by rw [← hm.out]; rfl
              rw [e]
              exact blk_drew (blk_put (cs := #[.slice (some ad) l0.length c0, .int .i64 0, .int .u64 m, .int .i64 0]) HBK.out 2 _ rfl)
            · exact below_drew1 (below_set HB.out (Nat.le_refl _))
          case measure => simp [intOf]; omega
        · go_wp2
          · go_ret
            have e3 : spec_l01Source.mix l0 k = r3 := by rw [← h3.out]; congr 1; split <;> omega
            have e4 : (12 : Int) = r4 := by rw [← h4.out]; go_light; split <;> omega
            rw [e3] at HBK
            obtain rfl := e4
            exact ⟨w.heap.size, rfl, ⟨_, _, blk_put (cs := #[_, .int .i64 0, .int .u64 r3, .int .i64 ((l0.length : Int) / 20)]) (blk_put (cs := #[_, .int .i64 0, .int .u64 r3, .int .i64 0]) HBK.out 3 _ rfl) 3 _ rfl, HB0.out.size, HR.out⟩, below_set (below_set (below_step HB0.out HB.out) HB0.out.size) HB0.out.size, below_set (below_set HB.out (Nat.le_refl _)) (Nat.le_refl _)⟩
          · go_ret
            have e3 : spec_l01Source.mix l0 k = r3 := by rw [← h3.out]; congr 1; split <;> omega
            have e4 : ((l0.length : Int) / 20) = r4 := by rw [← h4.out]; go_light; split <;> omega
            rw [e3] at HBK
            obtain rfl := e4
            exact ⟨w.heap.size, rfl, ⟨_, _, blk_put (cs := #[_, .int .i64 0, .int .u64 r3, .int .i64 0]) HBK.out 3 _ rfl, HB0.out.size, HR.out⟩, below_set (below_step HB0.out HB.out) HB0.out.size, below_set HB.out (Nat.le_refl _)⟩
      · go_wp2
        · go_ret
          have e3 : spec_l01Source.mix l0 k = r3 := by rw [← h3.out]; congr 1; split <;> omega
          have e4 : ((l0.length : Int) / 20) = r4 := by rw [← h4.out]; go_light; split <;> omega
          rw [e3] at HBK
          obtain rfl := e4
          exact ⟨w.heap.size, rfl, ⟨_, _, blk_put (cs := #[_, .int .i64 0, .int .u64 r3, .int .i64 0]) HBK.out 3 _ rfl, HB0.out.size, HR.out⟩, below_set (below_step HB0.out HB.out) HB0.out.size, below_set HB.out (Nat.le_refl _)⟩
  · unfold spec_l01Source.f at h
    rw [if_neg hlen] at h
    cases h

/-! ### spec_l01Src_n: function 94 (by hand) -/
theorem relet_ {Goal : World → Prop} {W : World} (P : World → Prop) (hP : P W) (h : ∀ w2, P w2 → Goal w2) : Goal W := h W hP
def spec_l01Src_n.m1 (m : Int) : Int := Go.bits .xor .u64 m (IntKind.u64.wrap (m * 8192))
def spec_l01Src_n.m2 (m : Int) : Int := Go.bits .xor .u64 m (m / 128)
def spec_l01Src_n.m3 (m : Int) : Int := Go.bits .xor .u64 m (IntKind.u64.wrap (m * 131072))
def spec_l01Src_n.mix (m : Int) : Int := spec_l01Src_n.m3 (spec_l01Src_n.m2 (spec_l01Src_n.m1 m))
def spec_l01Src_n.out (v m a : Int) : Int := wrap64 ((IntKind.u64.wrap (v + m / 1048576)).tmod a)
def spec_l01Src_n.out0 (m a : Int) : Int := wrap64 ((IntKind.u64.wrap (m / 1048576)).tmod a)
def spec_l01Src_n.f (s0_0 : List Int) (s0_1 s0_2 s0_3 a1 : Int) : Option (Int × Int × Int × Int) :=
  if a1 ≤ 1 then some (0, s0_1, s0_2, s0_3)
  else if a1 ≤ 9223372036854775807 then
    (if s0_1 < (s0_0.length : Int) then (if 0 ≤ s0_1 then some (spec_l01Src_n.out (IntKind.u64.wrap (rd s0_0 s0_1)) (spec_l01Src_n.mix s0_2) a1, wrap64 (s0_1 + 1), spec_l01Src_n.mix s0_2, s0_3) else none)
     else some (spec_l01Src_n.out0 (spec_l01Src_n.mix s0_2) a1, s0_1, spec_l01Src_n.mix s0_2, s0_3))
  else none
set_option maxHeartbeats 2000000 in
set_option maxRecDepth 100000 in
theorem spec_l01Src_n.calls (g : Nat) (s0_0 : List Int) (s0_1 : Int) (s0_2 : Int) (s0_3 : Int) (a1 : Int) (r1 : Int) (r2 : Int) (r3 : Int) (r4 : Int) (w0 w : World) (hI : IsS145 w0 w g s0_0 s0_1 s0_2 s0_3) (hB : Below w0.heap.size w0 w) (h : spec_l01Src_n.f s0_0 s0_1 s0_2 s0_3 a1 = some (r1, r2, r3, r4)) :
    Calls Tryd.prog 94 #[.pointer (some ⟨g, 0, none⟩), .int .i64 a1] w fun e w' => e = .returned (.int .i64 r1) ∧ IsS145 w0 w' g s0_0 r2 r3 r4 ∧ Below w0.heap.size w0 w' ∧ KeepBut w w' g none := by
  have HI := hI
  obtain ⟨A0, c0, hblk, hge, hC⟩ := hI
  have k0 := cellS145_0 hblk
  have k1 := cellS145_1 hblk
  have k2 := cellS145_2 hblk
  have z1 := blk_frozen hblk 1
  have z2 := blk_frozen hblk 2
  have HK := KeepBut.refl w g none
  by_cases h1 : a1 ≤ 1
  · unfold spec_l01Src_n.f at h
    rw [if_pos h1] at h
    simp only [Option.some.injEq, Prod.mk.injEq] at h
    obtain ⟨rfl, rfl, rfl, rfl⟩ := h
    have HI := Aside0.mk HI
    have HB := Aside0.mk hB
    have HK := Aside0.mk HK
    clear hblk hge hC hB
    go_enter Tryd.func94, Tryd.ntmps94
    go_wp2
    go_ret
    exact ⟨rfl, HI.out, HB.out, HK.out⟩
  · by_cases h2 : a1 ≤ 9223372036854775807
    · by_cases h4 : s0_1 < (s0_0.length : Int)
      · by_cases h3 : 0 ≤ s0_1
        · skip
          have ho : Aside0 (spec_l01Src_n.out (IntKind.u64.wrap (rd s0_0 s0_1)) (spec_l01Src_n.m3 (spec_l01Src_n.m2 (spec_l01Src_n.m1 s0_2))) a1 = r1 ∧ wrap64 (s0_1 + 1) = r2 ∧ spec_l01Src_n.m3 (spec_l01Src_n.m2 (spec_l01Src_n.m1 s0_2)) = r3 ∧ s0_3 = r4) := by
            unfold spec_l01Src_n.f at h
            rw [if_neg h1, if_pos h2, if_pos h4, if_pos h3] at h
            simp only [Option.some.injEq, Prod.mk.injEq] at h
            exact ⟨h⟩
          clear h
          obtain ⟨ad, e119, hx0⟩ := Kd.at_int hC s0_1 h3 h4
          cases e119
          replace hx0 := (hB.cell (World.block_lt_of_cell? w0 _ hx0)).trans hx0
          have HI := Aside0.mk HI
          have HB := Aside0.mk hB
          have HK := Aside0.mk HK
          clear hblk hge hC hB
          have h1 : 1 < a1 := by omega
          go_enter Tryd.func94, Tryd.ntmps94
          go_wp2
          go_quiet (fail)
          go_wp2
          go_quiet (fail)
          go_wp2
          go_region
          go_wp2
          refine relet_ (Goal := fun w' => Code.wp _ _ _ _ w') (fun w2 => IsS145 w0 w2 g s0_0 (wrap64 (s0_1 + 1)) (Go.bits .xor .u64 s0_2 (IntKind.u64.wrap (s0_2 * 8192))) s0_3 ∧ Below w0.heap.size w0 w2 ∧ KeepBut w w2 g none) ⟨by repeat (first | (with_reducible first | exact HI.out | apply IsS145.alloc | apply IsS145.drewN | apply IsS145.drew | apply IsS145.set_1 | apply IsS145.set_2 | apply IsS145.set_3) | exact HI.out), by repeat (first | (with_reducible first | exact HB.out | apply below_alloc | apply pw_below_drewN | apply below_drew1 | refine below_set ?_ (IsS145.ge HI.out)) | exact HB.out), by repeat (first | (with_reducible first | exact HK.out | apply KeepBut.set_ | apply keep_drewN | apply keep_drew | apply keep_alloc) | exact HK.out)⟩ ?_
          clear k0 k1 k2 z1 z2 HI HB HK hx0
          rintro w2 ⟨hI, hB, hK⟩
          change IsS145 w0 w2 g s0_0 (wrap64 (s0_1 + 1)) (spec_l01Src_n.m1 s0_2) s0_3 at hI
          obtain ⟨x1, hx1⟩ : ∃ m, spec_l01Src_n.m1 s0_2 = m := ⟨_, rfl⟩
          rw [hx1] at hI ho
          clear hx1
          have HI := Aside0.mk hI
          have HB := Aside0.mk hB
          have HK := Aside0.mk hK
          obtain ⟨A0, c0, hblk, hge, hC⟩ := hI
          have k0 := cellS145_0 hblk
          have k1 := cellS145_1 hblk
          have k2 := cellS145_2 hblk
          have z1 := blk_frozen hblk 1
          have z2 := blk_frozen hblk 2
          clear hblk hge hC hB hK
          go_region
          go_wp2
          refine relet_ (Goal := fun w' => Code.wp _ _ _ _ w') (fun w2 => IsS145 w0 w2 g s0_0 (wrap64 (s0_1 + 1)) (Go.bits .xor .u64 x1 (x1 / 128)) s0_3 ∧ Below w0.heap.size w0 w2 ∧ KeepBut w w2 g none) ⟨by repeat (first | (with_reducible first | exact HI.out | apply IsS145.alloc | apply IsS145.drewN | apply IsS145.drew | apply IsS145.set_1 | apply IsS145.set_2 | apply IsS145.set_3) | exact HI.out), by repeat (first | (with_reducible first | exact HB.out | apply below_alloc | apply pw_below_drewN | apply below_drew1 | refine below_set ?_ (IsS145.ge HI.out)) | exact HB.out), by repeat (first | (with_reducible first | exact HK.out | apply KeepBut.set_ | apply keep_drewN | apply keep_drew | apply keep_alloc) | exact HK.out)⟩ ?_
          clear k0 k1 k2 z1 z2 HI HB HK
          rintro w2 ⟨hI, hB, hK⟩
          change IsS145 w0 w2 g s0_0 (wrap64 (s0_1 + 1)) (spec_l01Src_n.m2 x1) s0_3 at hI
          obtain ⟨x2, hx2⟩ : ∃ m, spec_l01Src_n.m2 x1 = m := ⟨_, rfl⟩
          rw [hx2] at hI ho
          clear hx2
          have HI := Aside0.mk hI
          have HB := Aside0.mk hB
          have HK := Aside0.mk hK
          obtain ⟨A0, c0, hblk, hge, hC⟩ := hI
          have k0 := cellS145_0 hblk
          have k1 := cellS145_1 hblk
          have k2 := cellS145_2 hblk
          have z1 := blk_frozen hblk 1
          have z2 := blk_frozen hblk 2
          clear hblk hge hC hB hK
          go_region
          go_wp2
          go_ret
          unfold spec_l01Src_n.m3 spec_l01Src_n.out at ho
          obtain ⟨e1, e2, e3, e4⟩ := ho.out
          subst e1 e2 e3 e4
          exact ⟨rfl, by repeat (first | (with_reducible first | exact HI.out | apply IsS145.alloc | apply IsS145.drewN | apply IsS145.drew | apply IsS145.set_1 | apply IsS145.set_2 | apply IsS145.set_3) | exact HI.out), by repeat (first | (with_reducible first | exact HB.out | apply below_alloc | apply pw_below_drewN | apply below_drew1 | refine below_set ?_ (IsS145.ge HI.out)) | exact HB.out), by repeat (first | (with_reducible first | exact HK.out | apply KeepBut.set_ | apply keep_drewN | apply keep_drew | apply keep_alloc) | exact HK.out)⟩
        · unfold spec_l01Src_n.f at h
          rw [if_neg h1, if_pos h2, if_pos h4, if_neg h3] at h
          cases h
      · skip
        have ho : Aside0 (spec_l01Src_n.out0 (spec_l01Src_n.m3 (spec_l01Src_n.m2 (spec_l01Src_n.m1 s0_2))) a1 = r1 ∧ s0_1 = r2 ∧ spec_l01Src_n.m3 (spec_l01Src_n.m2 (spec_l01Src_n.m1 s0_2)) = r3 ∧ s0_3 = r4) := by
          unfold spec_l01Src_n.f at h
          rw [if_neg h1, if_pos h2, if_neg h4] at h
          simp only [Option.some.injEq, Prod.mk.injEq] at h
          exact ⟨h⟩
        clear h
        have HI := Aside0.mk HI
        have HB := Aside0.mk hB
        have HK := Aside0.mk HK
        clear hblk hge hC hB
        have h1 : 1 < a1 := by omega
        have h4 : (s0_0.length : Int) ≤ s0_1 := by omega
        go_enter Tryd.func94, Tryd.ntmps94
        go_wp2
        go_quiet (fail)
        go_wp2
        go_region
        go_wp2
        refine relet_ (Goal := fun w' => Code.wp _ _ _ _ w') (fun w2 => IsS145 w0 w2 g s0_0 (s0_1) (Go.bits .xor .u64 s0_2 (IntKind.u64.wrap (s0_2 * 8192))) s0_3 ∧ Below w0.heap.size w0 w2 ∧ KeepBut w w2 g none) ⟨by repeat (first | (with_reducible first | exact HI.out | apply IsS145.alloc | apply IsS145.drewN | apply IsS145.drew | apply IsS145.set_1 | apply IsS145.set_2 | apply IsS145.set_3) | exact HI.out), by repeat (first | (with_reducible first | exact HB.out | apply below_alloc | apply pw_below_drewN | apply below_drew1 | refine below_set ?_ (IsS145.ge HI.out)) | exact HB.out), by repeat (first | (with_reducible first | exact HK.out | apply KeepBut.set_ | apply keep_drewN | apply keep_drew | apply keep_alloc) | exact HK.out)⟩ ?_
        clear k0 k1 k2 z1 z2 HI HB HK
        rintro w2 ⟨hI, hB, hK⟩
        change IsS145 w0 w2 g s0_0 (s0_1) (spec_l01Src_n.m1 s0_2) s0_3 at hI
        obtain ⟨x1, hx1⟩ : ∃ m, spec_l01Src_n.m1 s0_2 = m := ⟨_, rfl⟩
        rw [hx1] at hI ho
        clear hx1
        have HI := Aside0.mk hI
        have HB := Aside0.mk hB
        have HK := Aside0.mk hK
        obtain ⟨A0, c0, hblk, hge, hC⟩ := hI
        have k0 := cellS145_0 hblk
        have k1 := cellS145_1 hblk
        have k2 := cellS145_2 hblk
        have z1 := blk_frozen hblk 1
        have z2 := blk_frozen hblk 2
        clear hblk hge hC hB hK
        go_region
        go_wp2
        refine relet_ (Goal := fun w' => Code.wp _ _ _ _ w') (fun w2 => IsS145 w0 w2 g s0_0 (s0_1) (Go.bits .xor .u64 x1 (x1 / 128)) s0_3 ∧ Below w0.heap.size w0 w2 ∧ KeepBut w w2 g none) ⟨by repeat (first | (with_reducible first | exact HI.out | apply IsS145.alloc | apply IsS145.drewN | apply IsS145.drew | apply IsS145.set_1 | apply IsS145.set_2 | apply IsS145.set_3) | exact HI.out), by repeat (first | (with_reducible first | exact HB.out | apply below_alloc | apply pw_below_drewN | apply below_drew1 | refine below_set ?_ (IsS145.ge HI.out)) | exact HB.out), by repeat (first | (with_reducible first | exact HK.out | apply KeepBut.set_ | apply keep_drewN | apply keep_drew | apply keep_alloc) | exact HK.out)⟩ ?_
        clear k0 k1 k2 z1 z2 HI HB HK
        rintro w2 ⟨hI, hB, hK⟩
        change IsS145 w0 w2 g s0_0 (s0_1) (spec_l01Src_n.m2 x1) s0_3 at hI
        obtain ⟨x2, hx2⟩ : ∃ m, spec_l01Src_n.m2 x1 = m := ⟨_, rfl⟩
        rw [hx2] at hI ho
        clear hx2
        have HI := Aside0.mk hI
        have HB := Aside0.mk hB
        have HK := Aside0.mk hK
        obtain ⟨A0, c0, hblk, hge, hC⟩ := hI
        have k0 := cellS145_0 hblk
        have k1 := cellS145_1 hblk
        have k2 := cellS145_2 hblk
        have z1 := blk_frozen hblk 1
        have z2 := blk_frozen hblk 2
        clear hblk hge hC hB hK
        go_region
        go_wp2
        go_ret
        unfold spec_l01Src_n.m3 spec_l01Src_n.out0 at ho
        obtain ⟨e1, e2, e3, e4⟩ := ho.out
        subst e1 e2 e3 e4
        exact ⟨rfl, by repeat (first | (with_reducible first | exact HI.out | apply IsS145.alloc | apply IsS145.drewN | apply IsS145.drew | apply IsS145.set_1 | apply IsS145.set_2 | apply IsS145.set_3) | exact HI.out), by repeat (first | (with_reducible first | exact HB.out | apply below_alloc | apply pw_below_drewN | apply below_drew1 | refine below_set ?_ (IsS145.ge HI.out)) | exact HB.out), by repeat (first | (with_reducible first | exact HK.out | apply KeepBut.set_ | apply keep_drewN | apply keep_drew | apply keep_alloc) | exact HK.out)⟩
    · unfold spec_l01Src_n.f at h
      rw [if_neg h1, if_neg h2] at h
      cases h

theorem spec_l01Src_n.tot (l : List Int) (a m z w : Int) (hl : l.length ≤ 140737488355328) (h0 : 0 ≤ a) (h1 : a ≤ (l.length : Int)) (hw : w ≤ 9223372036854775807) :
    YtnonijganceneaaDoorPts.Tot (spec_l01Src_n.f l a m z w) (fun r => 0 ≤ r.1 ∧ (r.1 < w ∨ r.1 = 0) ∧ 0 ≤ r.2.1 ∧ r.2.1 ≤ (l.length : Int) ∧ r.2.2.2 = z) := by
  have g : ∀ x : Int, 1 < w → 0 ≤ wrap64 ((IntKind.u64.wrap x).tmod w) ∧ wrap64 ((IntKind.u64.wrap x).tmod w) < w := by
    intro x hw1
    have hx : 0 ≤ IntKind.u64.wrap x := by simp [IntKind.wrap, IntKind.bits, IntKind.signed]; omega
    rw [Int.tmod_eq_emod_of_nonneg hx]
    have a1 := Int.emod_nonneg (IntKind.u64.wrap x) (show w ≠ 0 by omega)
    have a2 := Int.emod_lt_of_pos (IntKind.u64.wrap x) (show 0 < w by omega)
    obtain ⟨y, hy⟩ : ∃ y, IntKind.u64.wrap x % w = y := ⟨_, rfl⟩
    rw [hy] at a1 a2 ⊢
    clear hy hx
    unfold wrap64; omega
  unfold spec_l01Src_n.f
  by_cases c1 : w ≤ 1
  · rw [if_pos c1]
    exact YtnonijganceneaaDoorPts.Tot.mk ⟨by simp, .inr rfl, h0, h1, rfl⟩
  · rw [if_neg c1, if_pos hw]
    have hw1 : 1 < w := by omega
    by_cases c2 : a < (l.length : Int)
    · rw [if_pos c2, if_pos h0]
      have e : wrap64 (a + 1) = a + 1 := by unfold wrap64; omega
      rw [e]
      unfold spec_l01Src_n.out
      exact YtnonijganceneaaDoorPts.Tot.mk ⟨(g _ hw1).1, Or.inl (g _ hw1).2, by dsimp only; omega, by dsimp only; omega, rfl⟩
    · rw [if_neg c2]
      unfold spec_l01Src_n.out0
      exact YtnonijganceneaaDoorPts.Tot.mk ⟨(g _ hw1).1, Or.inl (g _ hw1).2, h0, h1, rfl⟩

/-! ### spec_l01Src_one: function 91 -/
def spec_l01Src_one.f (s0_0 : List Int) (s0_1 : Int) (s0_2 : Int) (s0_3 : Int) (a1 : Int) : Option (Bool × Int × Int × Int) := (spec_l01Src_n.f s0_0 s0_1 s0_2 s0_3 a1).bind fun bt190 => (some ((bt190.1 == 0), bt190.2.1, bt190.2.2.1, bt190.2.2.2))
set_option maxHeartbeats 8000000 in
set_option maxRecDepth 100000 in
theorem spec_l01Src_one.calls (g : Nat) (s0_0 : List Int) (s0_1 : Int) (s0_2 : Int) (s0_3 : Int) (a1 : Int) (r1 : Bool) (r2 : Int) (r3 : Int) (r4 : Int) (w0 w : World) (hI : IsS145 w0 w g s0_0 s0_1 s0_2 s0_3) (hB : Below w0.heap.size w0 w) (h : spec_l01Src_one.f s0_0 s0_1 s0_2 s0_3 a1 = some (r1, r2, r3, r4)) :
    Calls Tryd.prog 91 #[.pointer (some ⟨g, 0, none⟩), .int .i64 a1] w fun e w' => e = .returned (.bool r1) ∧ IsS145 w0 w' g s0_0 r2 r3 r4 ∧ Below w0.heap.size w0 w' ∧ KeepBut w w' g none := by
  have HI0 := Aside0.mk hI
  have HK := Aside0.mk (KeepBut.refl w g none)
  have HL := Aside0.mk hB.size
  clear hI
  have HW0 := Aside0.mk hB.size
  have HB := Aside0.mk hB
  clear hB
  have H : ((spec_l01Src_n.f s0_0 s0_1 s0_2 s0_3 a1).bind fun bt190 => (some ((bt190.1 == 0), bt190.2.1, bt190.2.2.1, bt190.2.2.2))) = some (r1, r2, r3, r4) := h
  clear h
  replace H := Option.bind_eq_some_iff.mp H
  obtain ⟨⟨t190, t191, t192, t193⟩, A30, H⟩ := H
  replace H : (some ((t190 == 0), t191, t192, t193)) = some (r1, r2, r3, r4) := H
  have A3 := Aside0.mk A30
  clear A30
  simp only [Option.some.injEq, Prod.mk.injEq] at H
  obtain ⟨rfl, rfl, rfl, rfl⟩ := H
  go_enter Tryd.func91, Tryd.ntmps91
  go_wp2_with (first | ((with_reducible refine gate_callee (f := 94) rfl ?_); refine goesL_ (some 7) rfl rfl Tryd.func94 (by kernel_rfl) rfl #[.pointer (some ⟨g, 0, none⟩), .int .i64 a1] rfl (by (try simp only [List.map_toArray, List.map_cons, List.map_nil]); first | done | rfl | (simp only [List.length_drop, List.length_take]; rfl)) ?_; (with_reducible refine (spec_l01Src_n.calls g s0_0 s0_1 s0_2 s0_3 a1 t190 t191 t192 t193 w0 _ ?side1 ?side2 A3.out).mono ?_); (case side1 => repeat (first | (with_reducible first | exact HI0.out | apply IsS145.alloc | apply IsS145.drewN | apply IsS145.drew | apply IsS145.set_1 | apply IsS145.set_2 | apply IsS145.set_3) | exact HI0.out)); (case side2 => repeat (first | (with_reducible first | exact HB.out | apply below_alloc | apply pw_below_drewN | apply below_drew1 | refine below_set ?_ (IsS145.ge HI0.out)) | exact HB.out)); rintro e w4 ⟨rfl, hi, hb, hk⟩; refine ⟨_, rfl, ?_⟩; have n0_ := Aside0.mk (KeepBut.trans (by repeat (first | (with_reducible first | exact HK.out | apply KeepBut.set_ | apply keep_drewN | apply keep_drew | apply keep_alloc) | exact HK.out)) hk (.inl rfl)); have n1_ := Aside0.mk (hb); have n2_ := Aside0.mk (hi); clear HK; clear HB; clear HI0; have HK := n0_; have HB := n1_; have HI0 := n2_; clear n0_ n1_ n2_; (try clear hb); (try clear hb2); (try clear hk); (try clear hi)))
  go_ret
  exact ⟨by first | rfl | (simp [errW_none, errW_some] <;> rfl) | (simp [*, errW_none, errW_some] <;> rfl), by repeat (first | (with_reducible first | exact HI0.out | apply IsS145.alloc | apply IsS145.drewN | apply IsS145.drew | apply IsS145.set_1 | apply IsS145.set_2 | apply IsS145.set_3) | exact HI0.out), by repeat (first | (with_reducible first | exact HB.out | apply below_alloc | apply pw_below_drewN | apply below_drew1 | refine below_set ?_ (IsS145.ge HI0.out)) | exact HB.out), by repeat (first | (with_reducible first | exact HK.out | apply KeepBut.set_ | apply keep_drewN | apply keep_drew | apply keep_alloc) | exact HK.out)⟩

theorem spec_l01Src_one.tot (l : List Int) (a m z w : Int) (hl : l.length ≤ 140737488355328) (h0 : 0 ≤ a) (h1 : a ≤ (l.length : Int)) (hw : w ≤ 9223372036854775807) :
    YtnonijganceneaaDoorPts.Tot (spec_l01Src_one.f l a m z w) (fun r => 0 ≤ r.2.1 ∧ r.2.1 ≤ (l.length : Int) ∧ r.2.2.2 = z) := by
  unfold spec_l01Src_one.f
  refine YtnonijganceneaaDoorPts.Tot.bind (spec_l01Src_n.tot l a m z w hl h0 h1 hw) ?_
  rintro ⟨v, a1, m1, z1⟩ ⟨_, _, h2, h3, h4⟩
  exact YtnonijganceneaaDoorPts.Tot.mk ⟨h2, h3, h4⟩

/-! ### spec_l01Src_long: function 92 -/
def spec_l01Src_long.l0 : Nat → ByteArray → Int → List Int → List Int → Int → Int → Int → Option (ByteArray × Int × Int × Int)
  | 0, _, _, _, _, _, _, _ => none
  | k + 1, x1, x2, x7, x1000, x1001, x1002, x1003 => if (x7.length : Int) < x2 then (if x7.length + x1.size < 140737488355328 then (spec_l01Src_long.l0 k x1 x2 (x7 ++ bytesOf x1) x1000 x1001 x1002 x1003) else (none)) else (if 0 ≤ x2 then (if x2 ≤ (x7.length : Int) then (some (strOfNums (x7.take (x2 : Int).toNat), x1001, x1002, x1003)) else (none)) else (none))
def spec_l01Src_long.f (k : Nat) (s0_0 : List Int) (s0_1 : Int) (s0_2 : Int) (s0_3 : Int) (a1 : ByteArray) (a2 : Int) : Option (ByteArray × Int × Int × Int) := spec_l01Src_long.l0 k a1 a2 (([] : List Int)) s0_0 s0_1 s0_2 s0_3
theorem spec_l01Src_long.mono_l : ∀ k, (∀ y0 y1 y2 y3 y4 y5 y6, LeO (spec_l01Src_long.l0 k y0 y1 y2 y3 y4 y5 y6) (spec_l01Src_long.l0 (k + 1) y0 y1 y2 y3 y4 y5 y6))
  | 0 => fun _ _ _ _ _ _ _ r h => by simp [spec_l01Src_long.l0] at h
  | k + 1 => by
    have ih0 := spec_l01Src_long.mono_l k
    · intro y0 y1 y2 y3 y4 y5 y6
      unfold spec_l01Src_long.l0
      repeat' first
      | (with_reducible exact ih0 _ _ _ _ _ _ _)
      | (with_reducible exact LeO.refl _)
      | (with_reducible exact LeO.none _)
      | (with_reducible refine LeO.ite ?_ ?_)
      | (with_reducible refine LeO.bind ?_ (fun _ => ?_))
      | exact ih0 _ _ _ _ _ _ _
      | exact LeO.none _
      | refine LeO.ite ?_ ?_
      | refine LeO.bind ?_ (fun _ => ?_)
theorem spec_l01Src_long.mono : ∀ a0 a1 a2 a3 a4 a5 k, LeO (spec_l01Src_long.f k a0 a1 a2 a3 a4 a5) (spec_l01Src_long.f (k + 1) a0 a1 a2 a3 a4 a5) := by
  intro a0 a1 a2 a3 a4 a5 k
  have ih0 := spec_l01Src_long.mono_l k
  unfold spec_l01Src_long.f
  repeat' first
      | (with_reducible exact ih0 _ _ _ _ _ _ _)
      | (with_reducible exact LeO.refl _)
      | (with_reducible exact LeO.none _)
      | (with_reducible refine LeO.ite ?_ ?_)
      | (with_reducible refine LeO.bind ?_ (fun _ => ?_))
      | exact ih0 _ _ _ _ _ _ _
      | exact LeO.none _
      | refine LeO.ite ?_ ?_
      | refine LeO.bind ?_ (fun _ => ?_)
set_option maxHeartbeats 8000000 in
set_option maxRecDepth 100000 in
theorem spec_l01Src_long.calls (k : Nat) (g : Nat) (s0_0 : List Int) (s0_1 : Int) (s0_2 : Int) (s0_3 : Int) (a1 : ByteArray) (a2 : Int) (r1 : ByteArray) (r2 : Int) (r3 : Int) (r4 : Int) (w0 w : World) (hI : IsS145 w0 w g s0_0 s0_1 s0_2 s0_3) (hB : Below w0.heap.size w0 w) (h : spec_l01Src_long.f k s0_0 s0_1 s0_2 s0_3 a1 a2 = some (r1, r2, r3, r4)) :
    Calls Tryd.prog 92 #[.pointer (some ⟨g, 0, none⟩), .string a1, .int .i64 a2] w fun e w' => e = .returned (.string r1) ∧ IsS145 w0 w' g s0_0 r2 r3 r4 ∧ Below w0.heap.size w0 w' ∧ KeepBut w w' g none := by
  have HI0 := Aside0.mk hI
  have HK := Aside0.mk (KeepBut.refl w g none)
  have HL := Aside0.mk hB.size
  clear hI
  have HW0 := Aside0.mk hB.size
  have HB := Aside0.mk hB
  clear hB
  have H : (spec_l01Src_long.l0 k a1 a2 (([] : List Int)) s0_0 s0_1 s0_2 s0_3) = some (r1, r2, r3, r4) := h
  clear h
  obtain ⟨y194, hy194⟩ : ∃ y_ : List Int, y_ = (([] : List Int)) := ⟨_, rfl⟩
  replace H : (spec_l01Src_long.l0 k a1 a2 y194 s0_0 s0_1 s0_2 s0_3) = some (r1, r2, r3, r4) := by first | (rw [hy194]; with_reducible exact H) | (have H2_ := (Option.bind_some _ _).symm.trans H; rw [hy194]; with_reducible exact H2_) | (have H2_ := (Option.bind_some _ _).symm.trans H; with_reducible exact H2_) | with_reducible exact H | (rw [hy194]; exact H) | exact H
  have Ny194 := Aside0.mk hy194
  clear hy194
  have H' := Aside0.mk H
  clear H
  go_enter Tryd.func92, Tryd.ntmps92
  go_wp2_with (first | ((with_reducible refine gate_dst (N := 8) rfl ?_); refine Kd.R_lit (Kd.int .u8) _ 5 ?hg (N := 8) ?hd (xs := ([] : List Int)) (inner := []) (ok := fun _ => True) (okp := fun _ => True) ?hr ?hp (fun _ hk => hk) trivial (Below.refl _ _) (Nat.le_refl _) (by simp) ?_; (case hd => rfl); (case hg => rfl); (case hr => first | (go_simp; done) | (go_simp; rfl)); (case hp => exact (Reps.none _ _)); intro v195 w4 ho5 hb hg_ hnew_; clear hg_ hnew_; (first | rw [← Ny194.out] at ho5 | (simp only [Int.reduceToNat] at ho5; rw [← Ny194.out] at ho5)); have n0_ := Aside0.mk (Kd.R_lower ho5 (keep_size (w := w) (g := g) (row := none) (by repeat (first | (with_reducible first | exact HK.out | apply KeepBut.set_ | apply keep_drewN | apply keep_drew | apply keep_alloc) | exact HK.out)))); have n1_ := Aside0.mk (IsS145.below (by repeat (first | (with_reducible first | exact HI0.out | apply IsS145.alloc | apply IsS145.drewN | apply IsS145.drew | apply IsS145.set_1 | apply IsS145.set_2 | apply IsS145.set_3) | exact HI0.out)) hb); have n2_ := Aside0.mk (KeepBut.trans (by repeat (first | (with_reducible first | exact HK.out | apply KeepBut.set_ | apply keep_drewN | apply keep_drew | apply keep_alloc) | exact HK.out)) (KeepBut.of_below hb g none) (.inl rfl)); have n3_ := Aside0.mk (below_step (by repeat (first | (with_reducible first | exact HB.out | apply below_alloc | apply pw_below_drewN | apply below_drew1 | refine below_set ?_ (IsS145.ge HI0.out)) | exact HB.out)) hb); clear HI0; clear HK; clear HB; have HO196 := n0_; have HI0 := n1_; have HK := n2_; have HB := n3_; clear n0_ n1_ n2_ n3_; clear hb ho5))
  go_loopg [7] k (fun kq v7 w' => ∃ (x7_1 : List Int), Aside0 (spec_l01Src_long.l0 kq a1 a2 x7_1 s0_0 s0_1 s0_2 s0_3 = some (r1, r2, r3, r4)) ∧ Aside0 (kq ≤ k) ∧ Aside0 (Kd.R (Kd.int .u8) 5 w' w.heap.size (fun _ => True) v7 x7_1) ∧ Aside0 (IsS145 w0 w' g s0_0 s0_1 s0_2 s0_3) ∧ Aside0 (KeepBut w w' g none) ∧ Aside0 (Below w0.heap.size w0 w'))
  case atStart => exact ⟨(y194), H', ⟨Nat.le_refl _⟩, ⟨by (with_reducible repeat (first | apply Kd.R_alloc | apply Kd.R_drewN | apply Kd.R_drew)); exact HO196.out⟩, ⟨by repeat (first | (with_reducible first | exact HI0.out | apply IsS145.alloc | apply IsS145.drewN | apply IsS145.drew | apply IsS145.set_1 | apply IsS145.set_2 | apply IsS145.set_3) | exact HI0.out)⟩, ⟨by repeat (first | (with_reducible first | exact HK.out | apply KeepBut.set_ | apply keep_drewN | apply keep_drew | apply keep_alloc) | exact HK.out)⟩, ⟨by repeat (first | (with_reducible first | exact HB.out | apply below_alloc | apply pw_below_drewN | apply below_drew1 | refine below_set ?_ (IsS145.ge HI0.out)) | exact HB.out)⟩⟩
  case round =>
    clear H'
    try clear p2
    obtain ⟨x7_1, HA, HK1, HO_7, HI0, HK, HB⟩ := hrel
    cases gk with
    | zero => exact absurd HA.out (by simp [spec_l01Src_long.l0])
    | succ k1 =>
      have H := HA.out
      clear HA
      simp only [spec_l01Src_long.l0] at H
      by_cases c6 : (x7_1.length : Int) < a2
      · rw [if_pos c6] at H
        have c6b0 : decide ((x7_1.length : Int) < a2) = true := decide_eq_true c6
        clear c6
        by_cases c7 : x7_1.length + a1.size < 140737488355328
        · rw [if_pos c7] at H
          have LMc7 := Aside0.mk c7
          clear c7
          obtain ⟨y197, hy197⟩ : ∃ y_ : List Int, y_ = (x7_1 ++ bytesOf a1) := ⟨_, rfl⟩
          replace H : (spec_l01Src_long.l0 k1 a1 a2 y197 s0_0 s0_1 s0_2 s0_3) = some (r1, r2, r3, r4) := by first | (rw [hy197]; with_reducible exact H) | (have H2_ := (Option.bind_some _ _).symm.trans H; rw [hy197]; with_reducible exact H2_) | (have H2_ := (Option.bind_some _ _).symm.trans H; with_reducible exact H2_) | with_reducible exact H | (rw [hy197]; exact H) | exact H
          have Ny197 := Aside0.mk hy197
          clear hy197
          have H' := Aside0.mk H
          clear H
          obtain ⟨Ao8, co8, eo8⟩ := Kd.R_slice HO_7.out
          subst eo8
          go_wp2_with (first | (at_builtin; refine print_append_str w.heap.size rfl (.tmp 13) _ 22 9 5 rfl Tryd.underlying22 Tryd.underlying9 info5 (.slice Ao8 x7_1.length co8) x7_1 a1 rfl rfl ?aO (Below.refl _ _) ?aS ?aL ?_; (case aO => exact (Kd.own_of_R (by (with_reducible repeat (first | apply Kd.R_alloc | apply Kd.R_drewN | apply Kd.R_drew)); exact HO_7.out))); (case aS => exact (keep_size (w := w) (g := g) (row := none) (by repeat (first | (with_reducible first | exact HK.out | apply KeepBut.set_ | apply keep_drewN | apply keep_drew | apply keep_alloc) | exact HK.out)))); (case aL => have := LMc7.out; omega); intro v198 w9 ho0 hb hg; have ho := Kd.R_of_own (h1 := fun _ => rfl) (ok := fun _ => True) ho0 (fun _ _ => trivial); clear ho0; have hat := True.intro; rw [← Ny197.out] at ho; change Kd.R (Kd.int .u8) 5 w9 w.heap.size (fun _ => True) v198 y197 at ho; have n0_ := Aside0.mk (IsS145.grown (by repeat (first | (with_reducible first | exact HI0.out | apply IsS145.alloc | apply IsS145.drewN | apply IsS145.drew | apply IsS145.set_1 | apply IsS145.set_2 | apply IsS145.set_3) | exact HI0.out)) hg (IsS145.own_ne HI0.out HO_7.out (by decide))); have n1_ := Aside0.mk (below_weaken (by repeat (first | (with_reducible first | exact HB.out | apply below_alloc | apply pw_below_drewN | apply below_drew1 | refine below_set ?_ (IsS145.ge HI0.out)) | exact HB.out)) HL.out hb); have n2_ := Aside0.mk (KeepBut.trans (by repeat (first | (with_reducible first | exact HK.out | apply KeepBut.set_ | apply keep_drewN | apply keep_drew | apply keep_alloc) | exact HK.out)) (KeepBut.of_grown hg g) (Kd.R_base2 HO_7.out)); have n3_ := Aside0.mk (ho); clear HI0; clear HB; clear HK; clear HO_7; have HI0 := n0_; have HB := n1_; have HK := n2_; have HO199 := n3_; clear n0_ n1_ n2_ n3_; clear ho hb hg hat))
          go_roundg k1
          case measure => have := HK1.out; omega
          case rel => exact ⟨(y197), H', ⟨by have := HK1.out; omega⟩, ⟨by (with_reducible repeat (first | apply Kd.R_alloc | apply Kd.R_drewN | apply Kd.R_drew)); exact HO199.out⟩, ⟨by repeat (first | (with_reducible first | exact HI0.out | apply IsS145.alloc | apply IsS145.drewN | apply IsS145.drew | apply IsS145.set_1 | apply IsS145.set_2 | apply IsS145.set_3) | exact HI0.out)⟩, ⟨by repeat (first | (with_reducible first | exact HK.out | apply KeepBut.set_ | apply keep_drewN | apply keep_drew | apply keep_alloc) | exact HK.out)⟩, ⟨by repeat (first | (with_reducible first | exact HB.out | apply below_alloc | apply pw_below_drewN | apply below_drew1 | refine below_set ?_ (IsS145.ge HI0.out)) | exact HB.out)⟩⟩
        · rw [if_neg c7] at H
          exact absurd H (by simp)
      · rw [if_neg c6] at H
        have c6b0 : decide ((x7_1.length : Int) < a2) = false := decide_eq_false c6
        clear c6
        by_cases c10 : 0 ≤ a2
        · rw [if_pos c10] at H
          have c10b0 := eq_true c10
          have c10b1 : decide (0 ≤ a2) = true := decide_eq_true c10
          clear c10
          by_cases c11 : a2 ≤ (x7_1.length : Int)
          · rw [if_pos c11] at H
            have c11b0 := eq_true c11
            have c11b1 : decide (a2 ≤ (x7_1.length : Int)) = true := decide_eq_true c11
            clear c11
            obtain ⟨y200, hy200⟩ : ∃ y_ : List Int, y_ = (x7_1.take (a2 : Int).toNat) := ⟨_, rfl⟩
            replace H : (some (strOfNums y200, s0_1, s0_2, s0_3)) = some (r1, r2, r3, r4) := by first | (rw [hy200]; with_reducible exact H) | (have H2_ := (Option.bind_some _ _).symm.trans H; rw [hy200]; with_reducible exact H2_) | (have H2_ := (Option.bind_some _ _).symm.trans H; with_reducible exact H2_) | with_reducible exact H | (rw [hy200]; exact H) | exact H
            have Ny200 := Aside0.mk hy200
            clear hy200
            simp only [Option.some.injEq, Prod.mk.injEq] at H
            obtain ⟨rfl, rfl, rfl, rfl⟩ := H
            obtain ⟨Ao12, co12, eo12⟩ := Kd.R_slice HO_7.out
            subst eo12
            have q13 : (a2 : Int) ≤ ((x7_1.length : Int) : Int) := of_decide_eq_true (by first | (with_reducible assumption) | assumption)
            obtain ⟨i013, hi013, _, hsz13, _⟩ := info_parts info5
            have hroom13 : x7_1.length ≤ co12 := (Kd.R_reads' HO_7.out).2.1
            have hC13 : Kd.C (Kd.int .u8) _ Ao12 x7_1.length x7_1 := (Kd.R_reads' HO_7.out).2.2
            have hcut13 := cut_to (P := Tryd.prog) 22 5 .i64 Tryd.underlying22 hi013 Ao12 x7_1.length co12 a2 (of_decide_eq_true (by first | (with_reducible assumption) | assumption)) q13 hroom13
            have hr13 := Kd.C_take (m := (a2 : Int).toNat) hC13 (by omega)
            have hy13 : y200.length = (a2 : Int).toNat := (by rw [Ny200.out, List.length_take]; omega)
            rw [← Ny200.out] at hr13
            rw [← hy13] at hcut13
            have HR203 := Aside0.mk hr13
            have HC203 := Aside0.mk (show y200.length ≤ co12 from by omega)
            clear hr13 hC13 hroom13 hi013 hsz13
            have KY13 := Aside0.mk hy13
            clear hy13
            have KL13 := Aside0.mk (show (a2 : Int).toNat ≤ x7_1.length from by omega)
            replace q13 := eq_true q13
            have hcv14 := Kd.C_string (P := Tryd.prog) (A := Ao12) (c := co12) Tryd.underlying22 Tryd.underlying5 Tryd.underlying9 (by repeat (first | (with_reducible exact HR203.out) | (with_reducible refine Kd.C_alloc ?_ _) | (with_reducible refine Kd.C_drewN ?_ _) | (with_reducible refine Kd.C_drew ?_) | exact HR203.out))
            go_wp2
            go_ret
            exact ⟨by first | rfl | (simp [errW_none, errW_some] <;> rfl) | (simp [*, errW_none, errW_some] <;> rfl), by repeat (first | (with_reducible first | exact HI0.out | apply IsS145.alloc | apply IsS145.drewN | apply IsS145.drew | apply IsS145.set_1 | apply IsS145.set_2 | apply IsS145.set_3) | exact HI0.out), by repeat (first | (with_reducible first | exact HB.out | apply below_alloc | apply pw_below_drewN | apply below_drew1 | refine below_set ?_ (IsS145.ge HI0.out)) | exact HB.out), by repeat (first | (with_reducible first | exact HK.out | apply KeepBut.set_ | apply keep_drewN | apply keep_drew | apply keep_alloc) | exact HK.out)⟩
          · rw [if_neg c11] at H
            exact absurd H (by simp)
        · rw [if_neg c10] at H
          exact absurd H (by simp)

theorem spec_l01Src_long.run (l : List Int) (c : ByteArray) (n a m z : Int) (hc : c.size = 2) (hn : 0 ≤ n) (hn2 : n ≤ 1000000) (d : Nat) : ∀ (k : Nat) (acc : List Int), n - acc.length ≤ d → acc.length ≤ 1000002 → d + 1 ≤ k →
    YtnonijganceneaaDoorPts.Tot (spec_l01Src_long.l0 k c n acc l a m z) (fun r => (r.1.size : Int) = n ∧ r.2.1 = a ∧ r.2.2.2 = z) := by
  have fin : ∀ (k : Nat) (acc : List Int), n ≤ acc.length → YtnonijganceneaaDoorPts.Tot (spec_l01Src_long.l0 (k + 1) c n acc l a m z) (fun r => (r.1.size : Int) = n ∧ r.2.1 = a ∧ r.2.2.2 = z) := by
    intro k acc h
    simp only [spec_l01Src_long.l0]
    rw [if_neg (by omega), if_pos hn, if_pos h]
    exact YtnonijganceneaaDoorPts.Tot.mk ⟨by dsimp only; rw [strOfNums_size, List.length_take]; omega, rfl, rfl⟩
  induction d with
  | zero =>
    intro k acc h1 h2 h3
    obtain ⟨k, rfl⟩ : ∃ j, k = j + 1 := ⟨k - 1, by omega⟩
    exact fin k acc (by omega)
  | succ d ih =>
    intro k acc h1 h2 h3
    obtain ⟨k, rfl⟩ : ∃ j, k = j + 1 := ⟨k - 1, by omega⟩
    by_cases h : (acc.length : Int) < n
    · simp only [spec_l01Src_long.l0]
      rw [if_pos h, if_pos (by omega)]
      exact ih k _ (by rw [List.length_append, bytesOf_length, hc]; omega) (by rw [List.length_append, bytesOf_length, hc]; omega) (by omega)
    · exact fin k acc (by omega)
theorem spec_l01Src_long.run2 (l : List Int) (c : ByteArray) (n a m z : Int) (hc : c.size = 2) (hca : ∀ b ∈ bytesOf c, 0 ≤ b ∧ b < 128) (hn : 0 ≤ n) (hn2 : n ≤ 1000000) (d : Nat) : ∀ (k : Nat) (acc : List Int), n - acc.length ≤ d → acc.length ≤ 1000002 → d + 1 ≤ k → (∀ b ∈ acc, 0 ≤ b ∧ b < 128) →
    YtnonijganceneaaDoorPts.Tot (spec_l01Src_long.l0 k c n acc l a m z) (fun r => ∀ b ∈ bytesOf r.1, b < 128) := by
  have fin : ∀ (k : Nat) (acc : List Int), n ≤ acc.length → (∀ b ∈ acc, 0 ≤ b ∧ b < 128) → YtnonijganceneaaDoorPts.Tot (spec_l01Src_long.l0 (k + 1) c n acc l a m z) (fun r => ∀ b ∈ bytesOf r.1, b < 128) := by
    intro k acc h ha
    simp only [spec_l01Src_long.l0]
    rw [if_neg (by omega), if_pos hn, if_pos h]
    refine YtnonijganceneaaDoorPts.Tot.mk ?_
    dsimp only
    rw [YtnonijganceneaaDoorPts.bytesOf_strOfNums (fun b hb => by have := ha b (List.mem_of_mem_take hb); omega)]
    exact fun b hb => (ha b (List.mem_of_mem_take hb)).2
  induction d with
  | zero =>
    intro k acc h1 h2 h3 h4
    obtain ⟨k, rfl⟩ : ∃ j, k = j + 1 := ⟨k - 1, by omega⟩
    exact fin k acc (by omega) h4
  | succ d ih =>
    intro k acc h1 h2 h3 h4
    obtain ⟨k, rfl⟩ : ∃ j, k = j + 1 := ⟨k - 1, by omega⟩
    by_cases h : (acc.length : Int) < n
    · simp only [spec_l01Src_long.l0]
      rw [if_pos h, if_pos (by omega)]
      exact ih k _ (by rw [List.length_append, bytesOf_length, hc]; omega) (by rw [List.length_append, bytesOf_length, hc]; omega) (by omega) (fun b hb => by
        rcases List.mem_append.1 hb with g | g
        · exact h4 b g
        · exact hca b g)
    · exact fin k acc (by omega) h4

end Go.Proofs.YtnonijganceneaaDoor.QFnCodes
