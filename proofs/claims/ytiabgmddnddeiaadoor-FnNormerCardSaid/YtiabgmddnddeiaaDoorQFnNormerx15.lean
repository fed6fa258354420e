/- The law FnNormer: at every input the call answers true (this text: contracts on its way, by a program of this session's; no condition of ours). -/
import Derived.Test.YtiabgmddnddeiaaDoorQFnNormerx0
import Derived.Test.YtiabgmddnddeiaaDoorQFnNormerx1
import Derived.Test.YtiabgmddnddeiaaDoorQFnNormerx2
import Derived.Test.YtiabgmddnddeiaaDoorQFnNormerx8
import Derived.Test.YtiabgmddnddeiaaDoorQFnNormerx9
import Derived.Test.YtiabgmddnddeiaaDoorQFnNormerx10
import Derived.Test.YtiabgmddnddeiaaDoorQFnNormerx12
import Derived.Test.YtiabgmddnddeiaaDoorQFnNormerx13
import Derived.Test.YtiabgmddnddeiaaDoorQFnNormerx14
namespace Go.Proofs.YtiabgmddnddeiaaDoor.QFnNormer
open Go.RowKit Go.Proofs.YtiabgmddnddeiaaDoorW.PrintWords Go.Proofs.YtiabgmddnddeiaaDoorW.PrintLast Go.Proofs.YtiabgmddnddeiaaDoorW.PrintMore
attribute [local go_sem] max2_int min2_int max_two min_two max_three min_three max_four min_four   -- for this text's walks alone
set_option linter.unusedVariables false
set_option linter.unusedSimpArgs false

/-! ### impl_FeedNormer: function 19 -/
def impl_FeedNormer.l0 : Nat → List Int → Int → List Int → Int → Int → Int → ByteArray → Option (Int × Int × ByteArray × ByteArray)
 | 0, _, _, _, _, _, _, _ => none
 | k + 1, x5, x6, x24, x25, x26, x344000, x344001 => if x26 < x25 then (if 0 ≤ x26 then (if x26 < (x24.length : Int) then ((impl_safe.f (rd x24 x26) x344000).bind fun t357 => (if t357 = true then (impl_FeedNormer.l0 k x5 x26 x24 x25 (wrap64 (x26 + 1)) x344000 x344001) else (impl_FeedNormer.l0 k x5 x6 x24 x25 (wrap64 (x26 + 1)) x344000 x344001))) else (none)) else (none)) else (if 0 ≤ x6 then (if x6 ≤ (x5.length : Int) then ((impl_normal.f x344000 (x5.take (x6 : Int).toNat)).bind fun t362 => ((W_impl_write.f t362).bind fun t365 => ((W_impl_write.f (x5.drop (x6 : Int).toNat)).bind fun t370 => (if (t370.size : Int) > 1000 then (some (8, 0, (⟨#[]⟩ : ByteArray), (⟨#[]⟩ : ByteArray))) else ((impl_long.f t365).bind fun t371 => (if t371 = true then (some (2, 0, (⟨#[]⟩ : ByteArray), (⟨#[]⟩ : ByteArray))) else (some (0, x344000, t370, t365)))))))) else (none)) else (none))
def impl_FeedNormer.f (k : Nat) (a0_0 : Int) (a0_1 : ByteArray) (a1 : ByteArray) : Option (Int × Int × ByteArray × ByteArray) := (impl_long.f a1).bind fun t345 => (if t345 = true then (some (2, 0, (⟨#[]⟩ : ByteArray), (⟨#[]⟩ : ByteArray))) else ((W_impl_NormerFault.f a0_0 a0_1).bind fun t346 => (if t346 = 0 then ((W_impl_points.f a0_1).bind fun t347 => ((W_impl_points.f a1).bind fun t350 => (if t347.length + t350.length < 17592186044416 then ((some (t347 ++ t350 : List Int)).bind fun y353 => (impl_FeedNormer.l0 k y353 0 y353 (y353.length : Int) 0 a0_0 a0_1)) else (none)))) else (some (1, 0, (⟨#[]⟩ : ByteArray), (⟨#[]⟩ : ByteArray))))))
theorem impl_FeedNormer.mono_l : ∀ k, (∀ y0 y1 y2 y3 y4 y5 y6, LeO (impl_FeedNormer.l0 k y0 y1 y2 y3 y4 y5 y6) (impl_FeedNormer.l0 (k + 1) y0 y1 y2 y3 y4 y5 y6))
 | 0 => fun _ _ _ _ _ _ _ r h => by simp [impl_FeedNormer.l0] at h
 | k + 1 => by
  have ih0 := impl_FeedNormer.mono_l k; intro y0 y1 y2 y3 y4 y5 y6
  unfold impl_FeedNormer.l0
  repeat' first
  | (with_reducible exact ih0 _ _ _ _ _ _ _)
  | (with_reducible exact LeO.refl _)
  | (with_reducible exact LeO.none _)
  | (with_reducible refine LeO.ite ?_ ?_)
  | (with_reducible refine LeO.bind ?_ (fun _ => ?_))
  | exact ih0 _ _ _ _ _ _ _
  | exact LeO.none _
  | refine LeO.ite ?_ ?_
  | refine LeO.bind ?_ (fun _ => ?_)
theorem impl_FeedNormer.mono : ∀ a0 a1 a2 k, LeO (impl_FeedNormer.f k a0 a1 a2) (impl_FeedNormer.f (k + 1) a0 a1 a2) := by
 intro a0 a1 a2 k
 have ih0 := impl_FeedNormer.mono_l k
 unfold impl_FeedNormer.f
 repeat' first
   | (with_reducible exact ih0 _ _ _ _ _ _ _)
   | (with_reducible exact LeO.refl _)
   | (with_reducible exact LeO.none _)
   | (with_reducible refine LeO.ite ?_ ?_)
   | (with_reducible refine LeO.bind ?_ (fun _ => ?_))
   | exact ih0 _ _ _ _ _ _ _
   | exact LeO.none _
   | refine LeO.ite ?_ ?_
   | refine LeO.bind ?_ (fun _ => ?_)
def impl_FeedNormer.T13 : Bool × List (List Nat × List Nat) := (true, [([], []), ([0], [0]), ([], []), ([], []), ([2, 3], [2, 3]), ([1, 4], [1, 4]), ([5, 5], [5]), ([6, 6, 0, 1, 2, 3, 4, 5, 6], [6])])
def impl_FeedNormer.B13 : List Nat := [0, 1, 0, 0, 12, 31, 63, 127]
theorem impl_FeedNormer.tab13 : rtab .any (opsOf Tryd.f19 13) = impl_FeedNormer.T13 := by kernel_rfl
theorem impl_FeedNormer.bits13 : waitsOk impl_FeedNormer.T13.2 impl_FeedNormer.B13 = true := by kernel_rfl
set_option maxHeartbeats 8000000 in
set_option maxRecDepth 100000 in
theorem impl_FeedNormer.calls (k : Nat) (a0_0 : Int) (a0_1 : ByteArray) (a1 : ByteArray) (r1 : Int) (r2 : Int) (r3 : ByteArray) (r4 : ByteArray) (w : World) (h : impl_FeedNormer.f k a0_0 a0_1 a1 = some (r1, r2, r3, r4)) (hG : GT w) :
  Calls Tryd.prog 19 #[.agg #[.int .i64 a0_0, .string a0_1], .string a1] w fun e w' => e = .returned (.agg #[.int .i64 r1, .int .i64 r2, .string r3, .string r4]) ∧ Below w.heap.size w w' := by
 have HG := Aside0.mk hG
 clear hG
 have hu27 := Tryd.underlying27
 have hu32 := Tryd.underlying32
 have HB := Aside0.mk (Below.refl w.heap.size w)
 have H : ((impl_long.f a1).bind fun t345 => (if t345 = true then (some (2, 0, (⟨#[]⟩ : ByteArray), (⟨#[]⟩ : ByteArray))) else ((W_impl_NormerFault.f a0_0 a0_1).bind fun t346 => (if t346 = 0 then ((W_impl_points.f a0_1).bind fun t347 => ((W_impl_points.f a1).bind fun t350 => (if t347.length + t350.length < 17592186044416 then ((some (t347 ++ t350 : List Int)).bind fun y353 => (impl_FeedNormer.l0 k y353 0 y353 (y353.length : Int) 0 a0_0 a0_1)) else (none)))) else (some (1, 0, (⟨#[]⟩ : ByteArray), (⟨#[]⟩ : ByteArray))))))) = some (r1, r2, r3, r4) := h
 clear h
 replace H := Option.bind_eq_some_iff.mp H
 obtain ⟨t345, A30, H⟩ := H
 try dsimp only at H
 have A3 := Aside0.mk A30
 clear A30
 by_cases c4 : t345 = true
 ·subst c4
  have H1 : (some (2, 0, (⟨#[]⟩ : ByteArray), (⟨#[]⟩ : ByteArray))) = some (r1, r2, r3, r4) := by rw [if_pos rfl] at H; exact H
  clear H; have H := H1; clear H1; simp only [Option.some.injEq, Prod.mk.injEq] at H; obtain ⟨rfl, rfl, rfl, rfl⟩ := H
  go_enter Tryd.func19, Tryd.ntmps19
  go_wp2_with (first | ((with_reducible refine gate_dst (N := 2) rfl ?_); refine box_event ?hg (N := 2) ?hd (cs := #[.int .i64 a0_0, .string a0_1]) (t := 27) ?hr ?_; (case hd => rfl); (case hg => rfl); (case hr => first | (go_simp; done) | (go_simp; rfl)); intro gb343 hg w5 hbox hb; have n0_ := Aside0.mk (below_step (belowA) hb); have n1_ := Aside0.mk (hbox); have n2_ := Aside0.mk ((by rw [hg]; exact (below_size (belowA)) : w.heap.size ≤ gb343)); have n3_ := Aside0.mk ((by rw [hg]; exact (below_size (belowA)) : w.heap.size ≤ gb343)); replace HB := n0_; have BK343 := n1_; have GW343 := n2_; have GE343 := n3_; clear n0_ n1_ n2_ n3_; clear hb hbox hg) | ((with_reducible refine gate_dst (N := 4) rfl ?_); refine box_event ?hg (N := 4) ?hd (cs := #[.int .i64 0, .int .i64 0, .string (⟨#[]⟩ : ByteArray), .string (⟨#[]⟩ : ByteArray)]) (t := 32) ?hr ?_; (case hd => rfl); (case hg => rfl); (case hr => first | (go_simp; done) | (go_simp; rfl)); intro gb344 hg w6 hbox hb; have n0_ := bkb BK343.out hb; have n1_ := Aside0.mk (below_step (belowG) hb); have n2_ := Aside0.mk (hbox); have n3_ := Aside0.mk ((by rw [hg]; exact (below_size (belowG)) : w.heap.size ≤ gb344)); have n4_ := Aside0.mk ((by rw [hg]; exact (below_size (belowG)) : w.heap.size ≤ gb344)); have n5_ := Aside0.mk ((by rw [hg]; exact Nat.ne_of_lt (blk_lt (g := gb343) (o := .cells #[.int .i64 a0_0, .string a0_1] 27 (0, 0)) (by (with_reducible repeat (first | refine blk_drewN ?_ _ | refine blk_drew ?_ | refine blk_alloc ?_ _)); exact BK343.out)) : gb343 ≠ gb344)); have n6_ := Aside0.mk ((by rw [hg]; exact Nat.ne_of_gt (blk_lt (g := gb343) (o := .cells #[.int .i64 a0_0, .string a0_1] 27 (0, 0)) (by (with_reducible repeat (first | refine blk_drewN ?_ _ | refine blk_drew ?_ | refine blk_alloc ?_ _)); exact BK343.out)) : gb344 ≠ gb343)); replace BK343 := n0_; replace HB := n1_; have BK344 := n2_; have GW344 := n3_; have GE344 := n4_; have NB343_344 := n5_; have NB344_343 := n6_; clear n0_ n1_ n2_ n3_ n4_ n5_ n6_; clear hb hbox hg) | (go_at_call 86; (with_reducible refine (impl_long.calls a1 true _ A3.out).mono ?_); rintro e w' ⟨rfl, ⟨nd, rfl⟩⟩; (try (rw [drewN_self w6]; generalize hq_ : World.drewN w6 _ = w6; have n0_ : Aside0 (w6.heap[gb343]? = some (.cells #[.int .i64 a0_0, .string a0_1] 27 (0, 0))) := ⟨by rw [← hq_]; exact (by (with_reducible repeat (first | refine blk_drewN ?_ _ | refine blk_drew ?_ | refine blk_alloc ?_ _)); exact BK343.out)⟩; have n1_ : Aside0 (w6.heap[gb344]? = some (.cells #[.int .i64 0, .int .i64 0, .string (⟨#[]⟩ : ByteArray), .string (⟨#[]⟩ : ByteArray)] 32 (0, 0))) := ⟨by rw [← hq_]; exact (by (with_reducible repeat (first | refine blk_drewN ?_ _ | refine blk_drew ?_ | refine blk_alloc ?_ _)); exact BK344.out)⟩; have n2_ : Aside0 (Below w.heap.size w w6) := ⟨by rw [← hq_]; exact (belowG)⟩; clear BK343 BK344 HB hq_; have BK343 := n0_; have BK344 := n1_; have HB := n2_; clear n0_ n1_ n2_)); have hnb7 := NB344_343.out; have hnc7 := NB343_344.out; have hcz8_0 : w6.cell? ⟨gb344, 0, none⟩ = some (.int .i64 0) := (blk_cell BK344.out 0).trans rfl; have hcz8_1 : w6.cell? ⟨gb344, 1, none⟩ = some (.int .i64 0) := (blk_cell BK344.out 1).trans rfl; have hcz8_2 : w6.cell? ⟨gb344, 2, none⟩ = some (.string (⟨#[]⟩ : ByteArray)) := (blk_cell BK344.out 2).trans rfl; have hcz8_3 : w6.cell? ⟨gb344, 3, none⟩ = some (.string (⟨#[]⟩ : ByteArray)) := (blk_cell BK344.out 3).trans rfl; have hfz8_0 := blk_frozen BK344.out 0; have hfz8_1 := blk_frozen BK344.out 1; have hfz8_2 := blk_frozen BK344.out 2; have hfz8_3 := blk_frozen BK344.out 3))
  refine bodyPost_ret (results_cell_row rfl _ _ gb344 32 #[.int .i64 2, .int .i64 0, .string (⟨#[]⟩ : ByteArray), .string (⟨#[]⟩ : ByteArray)] (0, 0) _ rfl (by (with_reducible repeat (first | refine blk_drewN ?_ _ | refine blk_drew ?_ | refine blk_alloc ?_ _)); refine blk_put (cs := #[.int .i64 2, .int .i64 0, .string (⟨#[]⟩ : ByteArray), .string (⟨#[]⟩ : ByteArray)]) ?_ 3 _ rfl; (with_reducible repeat (first | refine blk_drewN ?_ _ | refine blk_drew ?_ | refine blk_alloc ?_ _)); refine blk_put (cs := #[.int .i64 2, .int .i64 0, .string (⟨#[]⟩ : ByteArray), .string (⟨#[]⟩ : ByteArray)]) ?_ 2 _ rfl; (with_reducible repeat (first | refine blk_drewN ?_ _ | refine blk_drew ?_ | refine blk_alloc ?_ _)); refine blk_put (cs := #[.int .i64 2, .int .i64 0, .string (⟨#[]⟩ : ByteArray), .string (⟨#[]⟩ : ByteArray)]) ?_ 1 _ rfl; (with_reducible repeat (first | refine blk_drewN ?_ _ | refine blk_drew ?_ | refine blk_alloc ?_ _)); refine blk_put (cs := #[.int .i64 0, .int .i64 0, .string (⟨#[]⟩ : ByteArray), .string (⟨#[]⟩ : ByteArray)]) ?_ 0 _ rfl; (with_reducible repeat (first | refine blk_drewN ?_ _ | refine blk_drew ?_ | refine blk_alloc ?_ _)); exact BK344.out) Tryd.underlying32 rfl (by kernel_rfl)) rfl ?_
  exact ⟨by first | rfl | (simp [errW_none, errW_some] <;> rfl) | (simp [*, errW_none, errW_some] <;> rfl), belowG⟩
 replace c4 := Bool.eq_false_iff.mpr c4
 subst c4
 have H1 : ((W_impl_NormerFault.f a0_0 a0_1).bind fun t346 => (if t346 = 0 then ((W_impl_points.f a0_1).bind fun t347 => ((W_impl_points.f a1).bind fun t350 => (if t347.length + t350.length < 17592186044416 then ((some (t347 ++ t350 : List Int)).bind fun y353 => (impl_FeedNormer.l0 k y353 0 y353 (y353.length : Int) 0 a0_0 a0_1)) else (none)))) else (some (1, 0, (⟨#[]⟩ : ByteArray), (⟨#[]⟩ : ByteArray))))) = some (r1, r2, r3, r4) := by rw [if_neg (show ¬ (false = true) by decide)] at H; exact H
 clear H
 have H := H1
 clear H1
 replace H := Option.bind_eq_some_iff.mp H
 obtain ⟨t346, A90, H⟩ := H
 try dsimp only at H
 have A9 := Aside0.mk A90
 clear A90
 by_cases c10 : t346 = 0
 ·rw [if_pos c10] at H
  have c10b0 : (t346 == 0) = true := beq_iff_eq.mpr c10; have c10b1 : (t346 != 0) = false := bne_eq_false_iff_eq.mpr c10; clear c10; replace H := Option.bind_eq_some_iff.mp H; obtain ⟨t347, A110, H⟩ := H
  try dsimp only at H
  have A11 := Aside0.mk A110; clear A110; replace H := Option.bind_eq_some_iff.mp H; obtain ⟨t350, A120, H⟩ := H
  try dsimp only at H
  have A12 := Aside0.mk A120; clear A120
  by_cases c13 : t347.length + t350.length < 17592186044416
  ·rw [if_pos c13] at H
   have LMc13 := Aside0.mk c13; clear c13; obtain ⟨y353, hy353⟩ : ∃ y_ : List Int, y_ = (t347 ++ t350) := ⟨_, rfl⟩
   replace H : (impl_FeedNormer.l0 k y353 0 y353 (y353.length : Int) 0 a0_0 a0_1) = some (r1, r2, r3, r4) := by first | (rw [hy353]; with_reducible exact H) | (have H2_ := (Option.bind_some _ _).symm.trans H; rw [hy353]; with_reducible exact H2_) | (have H2_ := (Option.bind_some _ _).symm.trans H; with_reducible exact H2_) | with_reducible exact H | (rw [hy353]; exact H) | exact H
   have Ny353 := Aside0.mk hy353; clear hy353; have H' := Aside0.mk H; clear H
   go_enter Tryd.func19, Tryd.ntmps19
   go_wp2_with (first | ((with_reducible refine gate_dst (N := 2) rfl ?_); refine box_event ?hg (N := 2) ?hd (cs := #[.int .i64 a0_0, .string a0_1]) (t := 27) ?hr ?_; (case hd => rfl); (case hg => rfl); (case hr => first | (go_simp; done) | (go_simp; rfl)); intro gb343 hg w14 hbox hb; have n0_ := Aside0.mk (below_step (belowA) hb); have n1_ := Aside0.mk (hbox); have n2_ := Aside0.mk ((by rw [hg]; exact (below_size (belowA)) : w.heap.size ≤ gb343)); have n3_ := Aside0.mk ((by rw [hg]; exact (below_size (belowA)) : w.heap.size ≤ gb343)); replace HB := n0_; have BK343 := n1_; have GW343 := n2_; have GE343 := n3_; clear n0_ n1_ n2_ n3_; clear hb hbox hg) | ((with_reducible refine gate_dst (N := 4) rfl ?_); refine box_event ?hg (N := 4) ?hd (cs := #[.int .i64 0, .int .i64 0, .string (⟨#[]⟩ : ByteArray), .string (⟨#[]⟩ : ByteArray)]) (t := 32) ?hr ?_; (case hd => rfl); (case hg => rfl); (case hr => first | (go_simp; done) | (go_simp; rfl)); intro gb344 hg w15 hbox hb; have n0_ := bkb BK343.out hb; have n1_ := Aside0.mk (below_step (belowG) hb); have n2_ := Aside0.mk (hbox); have n3_ := Aside0.mk ((by rw [hg]; exact (below_size (belowG)) : w.heap.size ≤ gb344)); have n4_ := Aside0.mk ((by rw [hg]; exact (below_size (belowG)) : w.heap.size ≤ gb344)); have n5_ := Aside0.mk ((by rw [hg]; exact Nat.ne_of_lt (blk_lt (g := gb343) (o := .cells #[.int .i64 a0_0, .string a0_1] 27 (0, 0)) (by (with_reducible repeat (first | refine blk_drewN ?_ _ | refine blk_drew ?_ | refine blk_alloc ?_ _)); exact BK343.out)) : gb343 ≠ gb344)); have n6_ := Aside0.mk ((by rw [hg]; exact Nat.ne_of_gt (blk_lt (g := gb343) (o := .cells #[.int .i64 a0_0, .string a0_1] 27 (0, 0)) (by (with_reducible repeat (first | refine blk_drewN ?_ _ | refine blk_drew ?_ | refine blk_alloc ?_ _)); exact BK343.out)) : gb344 ≠ gb343)); replace BK343 := n0_; replace HB := n1_; have BK344 := n2_; have GW344 := n3_; have GE344 := n4_; have NB343_344 := n5_; have NB344_343 := n6_; clear n0_ n1_ n2_ n3_ n4_ n5_ n6_; clear hb hbox hg) | (go_at_call 86; (with_reducible refine (impl_long.calls a1 false _ A3.out).mono ?_); rintro e w' ⟨rfl, ⟨nd, rfl⟩⟩; have hnb16 := NB343_344.out; have hnc16 := NB344_343.out; have hcz17_0 : w15.cell? ⟨gb343, 0, none⟩ = some (.int .i64 a0_0) := (blk_cell BK343.out 0).trans rfl; have hcz17_1 : w15.cell? ⟨gb343, 1, none⟩ = some (.string a0_1) := (blk_cell BK343.out 1).trans rfl; have hfz17_0 := blk_frozen BK343.out 0; have hfz17_1 := blk_frozen BK343.out 1) | (go_at_call 22; (with_reducible refine (W_impl_NormerFault.calls a0_0 a0_1 t346 _ A9.out gtA).mono ?_); rintro e w18 ⟨rfl, hb⟩; have n0_ := bkb BK343.out hb; have n1_ := bkb BK344.out hb; have n2_ := Aside0.mk (below_step (belowG) hb); replace BK343 := n0_; replace BK344 := n1_; replace HB := n2_; clear n0_ n1_ n2_; clear hb; have hcz19_0 : w18.cell? ⟨gb343, 0, none⟩ = some (.int .i64 a0_0) := (blk_cell BK343.out 0).trans rfl; have hcz19_1 : w18.cell? ⟨gb343, 1, none⟩ = some (.string a0_1) := (blk_cell BK343.out 1).trans rfl; have hfz19_0 := blk_frozen BK343.out 0; have hfz19_1 := blk_frozen BK343.out 1) | (go_at_call 91; (with_reducible refine (W_impl_points.calls a0_1 t347 _ A11.out gtA).mono ?_); rintro e w20 ⟨v348, rfl, ho0, hb⟩; have n0_ := Aside0.mk (Kd.R_lower ho0 (below_size (belowG))); have n1_ := bkb BK343.out hb; have n2_ := bkb BK344.out hb; have n3_ := Aside0.mk (below_step (belowG) hb); have HO349 := n0_; replace BK343 := n1_; replace BK344 := n2_; replace HB := n3_; clear n0_ n1_ n2_ n3_; clear hb; (try clear ho0)) | (go_at_call 91; (with_reducible refine (W_impl_points.calls a1 t350 _ A12.out gtA).mono ?_); rintro e w21 ⟨v351, rfl, ho0, hb⟩; have n0_ := Aside0.mk (Kd.R_elder' (by (with_reducible repeat (first | apply Kd.R_alloc | apply Kd.R_drewN | apply Kd.R_drew)); exact HO349.out) (Kd.R_base ho0) hb); have n1_ := Aside0.mk (Kd.R_lower (Kd.R_new' ho0 (Kd.R_lt (by (with_reducible repeat (first | apply Kd.R_alloc | apply Kd.R_drewN | apply Kd.R_drew)); exact HO349.out))) (below_size (belowG))); have n2_ := bkb BK343.out hb; have n3_ := bkb BK344.out hb; have n4_ := Aside0.mk (below_step (belowG) hb); replace HO349 := n0_; have HO352 := n1_; replace BK343 := n2_; replace BK344 := n3_; replace HB := n4_; clear n0_ n1_ n2_ n3_ n4_; clear hb; (try clear ho0); obtain ⟨Ao23, co23, eo23⟩ := Kd.R_slice HO352.out; subst eo23) | ((with_reducible refine gate_builtin (b := .append) (xs := #[.tmp 20, .tmp 22]) rfl ?_); at_builtin; refine Kd.R_append_rows (Kd.int .i64) (w0 := w) w.heap.size rfl (.tmp 20) (.tmp 22) 28 2 (.int .i64 0) 8 rfl Tryd.underlying28 info2 rfl (by decide) (by omega) v348 t347 t350 _ _ _ (fun k_ => some k_ ≠ (.slice Ao23 t350.length co23 : Value).ownBlock) (fun _ => False) rfl rfl ?aO ?aR (fun _ _ h => h) (fun _ h => h.elim) ?aF ?aB ?aS ?aL ?_; (case aR => repeat (first | exact (Kd.R_reads' HO352.out).2.2 | (with_reducible refine Kd.C_alloc ?_ _) | (with_reducible refine Kd.C_drewN ?_ _) | (with_reducible refine Kd.C_drew ?_))); (case aB => exact (belowG)); (case aF => exact (fun k_ hk => Kd.fresh' (Kd.R_lt (by (with_reducible repeat (first | apply Kd.R_alloc | apply Kd.R_drewN | apply Kd.R_drew)); exact HO352.out)) k_ hk)); (case aO => exact (by (with_reducible repeat (first | apply Kd.R_alloc | apply Kd.R_drewN | apply Kd.R_drew)); exact Kd.R_mono HO349.out (fun _ hk => hk.2))); (case aS => exact (below_size (belowG))); (case aL => have := LMc13.out; omega); intro v354 w22 ho hb hg hat; rw [← Ny353.out] at ho; have n0_ := Aside0.mk (blk_grown (g := gb343) (o := .cells #[.int .i64 a0_0, .string a0_1] 27 (0, 0)) (by (with_reducible repeat (first | refine blk_drewN ?_ _ | refine blk_drew ?_ | refine blk_alloc ?_ _)); exact BK343.out) hg (Kd.R_ne HO349.out BK343.out (by decide))); have n1_ := Aside0.mk (blk_grown (g := gb344) (o := .cells #[.int .i64 0, .int .i64 0, .string (⟨#[]⟩ : ByteArray), .string (⟨#[]⟩ : ByteArray)] 32 (0, 0)) (by (with_reducible repeat (first | refine blk_drewN ?_ _ | refine blk_drew ?_ | refine blk_alloc ?_ _)); exact BK344.out) hg (Kd.R_ne HO349.out BK344.out (by decide))); have n2_ := Aside0.mk (Kd.R_after (ok := (fun _ => True)) (by (with_reducible repeat (first | apply Kd.R_alloc | apply Kd.R_drewN | apply Kd.R_drew)); exact HO352.out) hg hat); have n3_ := Aside0.mk (hb); have n4_ := Aside0.mk (ho); replace BK343 := n0_; replace BK344 := n1_; replace HO352 := n2_; replace HB := n3_; have HO355 := n4_; clear HO349; clear n0_ n1_ n2_ n3_ n4_; clear ho hb hg hat; obtain ⟨Ao24, co24, eo24⟩ := Kd.R_slice HO355.out; subst eo24))
   go_loopg [6, 26] k (fun kq v6 v26 w' => ∃ (x6_1 : Int) (x26_1 : Int), v6 = .int .i64 x6_1 ∧ v26 = .int .i64 x26_1 ∧ Aside0 (impl_FeedNormer.l0 kq y353 x6_1 y353 (y353.length : Int) x26_1 a0_0 a0_1 = some (r1, r2, r3, r4)) ∧ Aside0 (kq ≤ k) ∧ Aside0 (Kd.R (Kd.int .i64) 2 w' w.heap.size (fun _ => True) (.slice Ao24 y353.length co24) y353) ∧ Aside0 (Kd.R (Kd.int .i64) 2 w' w.heap.size (fun _ => True) (.slice Ao24 y353.length co24) y353) ∧ Aside0 (w'.heap[gb343]? = some (.cells #[.int .i64 a0_0, .string a0_1] 27 (0, 0))) ∧ Aside0 (w'.heap[gb344]? = some (.cells #[.int .i64 0, .int .i64 0, .string (⟨#[]⟩ : ByteArray), .string (⟨#[]⟩ : ByteArray)] 32 (0, 0))) ∧ Aside0 (Below w.heap.size w w'))
   case atStart => exact ⟨(0), (0), (by first | rfl | (simp; done) | (simp [*]; done)), (by first | rfl | (simp; done) | (simp [*]; done)), H', ⟨Nat.le_refl _⟩, ⟨by (with_reducible repeat (first | apply Kd.R_alloc | apply Kd.R_drewN | apply Kd.R_drew)); exact Kd.R_mono HO355.out (fun _ hk => trivial)⟩, ⟨by (with_reducible repeat (first | apply Kd.R_alloc | apply Kd.R_drewN | apply Kd.R_drew)); exact Kd.R_mono HO355.out (fun _ hk => trivial)⟩, ⟨by (with_reducible repeat (first | refine blk_drewN ?_ _ | refine blk_drew ?_ | refine blk_alloc ?_ _)); exact BK343.out⟩, ⟨by (with_reducible repeat (first | refine blk_drewN ?_ _ | refine blk_drew ?_ | refine blk_alloc ?_ _)); exact BK344.out⟩, ⟨belowG⟩⟩
   case round =>
    clear H'
    try clear c1; try clear c2; try clear p2; try clear c4; try clear c7; try clear c8; try clear c9; try clear c10; try clear c10b0; try clear c10b1; try clear c13; try clear c16; try clear c19; try clear c22; try clear hcz17_0; try clear hcz17_1; try clear hcz19_0; try clear hcz19_1; try clear hcz8_0; try clear hcz8_1; try clear hcz8_2; try clear hcz8_3; try clear hfz17_0; try clear hfz17_1; try clear hfz19_0; try clear hfz19_1; try clear hfz8_0; try clear hfz8_1; try clear hfz8_2; try clear hfz8_3
    obtain ⟨x6_1, x26_1, rfl, rfl, HA, HK1, HO_5, HO_24, BK343, BK344, HB⟩ := hrel
    cases gk with
    | zero => exact absurd HA.out (by simp [impl_FeedNormer.l0])
    | succ k1 =>
     have H := HA.out; clear HA; simp only [impl_FeedNormer.l0] at H
     by_cases c25 : x26_1 < (y353.length : Int)
     ·rw [if_pos c25] at H
      have c25b0 : decide (x26_1 < (y353.length : Int)) = true := decide_eq_true c25; clear c25
      by_cases c26 : 0 ≤ x26_1
      ·rw [if_pos c26] at H
       have c26b0 : decide (0 ≤ x26_1) = true := decide_eq_true c26; clear c26
       by_cases c27 : x26_1 < (y353.length : Int)
       ·rw [if_pos c27] at H
        have c27b0 : decide (x26_1 < (y353.length : Int)) = true := decide_eq_true c27; clear c27; replace H := Option.bind_eq_some_iff.mp H; obtain ⟨t357, A280, H⟩ := H
        try dsimp only at H
        have A28 := Aside0.mk A280; clear A280
        by_cases c29 : t357 = true
        ·subst c29
         have H1 : (impl_FeedNormer.l0 k1 y353 x26_1 y353 (y353.length : Int) (wrap64 (x26_1 + 1)) a0_0 a0_1) = some (r1, r2, r3, r4) := by rw [if_pos rfl] at H; exact H
         clear H; have H := H1; clear H1; have H' := Aside0.mk H; clear H; have p356 : 0 ≤ (x26_1 : Int) := ode; have q356 : x26_1 < (y353.length : Int) := ode; obtain ⟨ad356, e356, hx356_0⟩ := Kd.at_int (Kd.R_reads' HO_24.out).2.2 x26_1 p356 q356; cases e356; replace p356 := eq_true p356; replace q356 := eq_true q356; have hnb30 := NB343_344.out; have hnc30 := NB344_343.out; have hcz31_0 : wr.cell? ⟨gb343, 0, none⟩ = some (.int .i64 a0_0) := (blk_cell BK343.out 0).trans rfl; have hcz31_1 : wr.cell? ⟨gb343, 1, none⟩ = some (.string a0_1) := (blk_cell BK343.out 1).trans rfl; have hfz31_0 := blk_frozen BK343.out 0; have hfz31_1 := blk_frozen BK343.out 1
         go_wp2_with (first | (go_at_call 92; (with_reducible refine (impl_safe.calls (rd y353 x26_1) a0_0 true _ A28.out).mono ?_); rintro e w32 ⟨rfl, hb⟩; have n0_ := rbb HO_5.out hb; have n1_ := rbb HO_24.out hb; have n2_ := bkb BK343.out hb; have n3_ := bkb BK344.out hb; have n4_ := Aside0.mk (below_step (belowG) hb); replace HO_5 := n0_; replace HO_24 := n1_; replace BK343 := n2_; replace BK344 := n3_; replace HB := n4_; clear n0_ n1_ n2_ n3_ n4_; clear hb))
         go_roundg k1
         case measure => have := HK1.out; omega
         case rel => exact ⟨(x26_1), (wrap64 (x26_1 + 1)), (by first | rfl | (simp; done) | (simp [*]; done)), (by first | rfl | (simp; done) | (simp [*]; done)), H', ⟨by have := HK1.out; omega⟩, ⟨by (with_reducible repeat (first | apply Kd.R_alloc | apply Kd.R_drewN | apply Kd.R_drew)); exact HO_5.out⟩, ⟨by (with_reducible repeat (first | apply Kd.R_alloc | apply Kd.R_drewN | apply Kd.R_drew)); exact HO_24.out⟩, ⟨by (with_reducible repeat (first | refine blk_drewN ?_ _ | refine blk_drew ?_ | refine blk_alloc ?_ _)); exact BK343.out⟩, ⟨by (with_reducible repeat (first | refine blk_drewN ?_ _ | refine blk_drew ?_ | refine blk_alloc ?_ _)); exact BK344.out⟩, ⟨belowG⟩⟩
        replace c29 := Bool.eq_false_iff.mpr c29; subst c29
        have H1 : (impl_FeedNormer.l0 k1 y353 x6_1 y353 (y353.length : Int) (wrap64 (x26_1 + 1)) a0_0 a0_1) = some (r1, r2, r3, r4) := by rw [if_neg (show ¬ (false = true) by decide)] at H; exact H
        clear H; have H := H1; clear H1; have H' := Aside0.mk H; clear H; have p356 : 0 ≤ (x26_1 : Int) := ode; have q356 : x26_1 < (y353.length : Int) := ode; obtain ⟨ad356, e356, hx356_0⟩ := Kd.at_int (Kd.R_reads' HO_24.out).2.2 x26_1 p356 q356; cases e356; replace p356 := eq_true p356; replace q356 := eq_true q356; have hnb33 := NB343_344.out; have hnc33 := NB344_343.out; have hcz34_0 : wr.cell? ⟨gb343, 0, none⟩ = some (.int .i64 a0_0) := (blk_cell BK343.out 0).trans rfl; have hcz34_1 : wr.cell? ⟨gb343, 1, none⟩ = some (.string a0_1) := (blk_cell BK343.out 1).trans rfl; have hfz34_0 := blk_frozen BK343.out 0; have hfz34_1 := blk_frozen BK343.out 1
        go_wp2_with (first | (go_at_call 92; (with_reducible refine (impl_safe.calls (rd y353 x26_1) a0_0 false _ A28.out).mono ?_); rintro e w35 ⟨rfl, hb⟩; have n0_ := rbb HO_5.out hb; have n1_ := rbb HO_24.out hb; have n2_ := bkb BK343.out hb; have n3_ := bkb BK344.out hb; have n4_ := Aside0.mk (below_step (belowG) hb); replace HO_5 := n0_; replace HO_24 := n1_; replace BK343 := n2_; replace BK344 := n3_; replace HB := n4_; clear n0_ n1_ n2_ n3_ n4_; clear hb))
        go_roundg k1
        case measure => have := HK1.out; omega
        case rel => exact ⟨(x6_1), (wrap64 (x26_1 + 1)), (by first | rfl | (simp; done) | (simp [*]; done)), (by first | rfl | (simp; done) | (simp [*]; done)), H', ⟨by have := HK1.out; omega⟩, ⟨by (with_reducible repeat (first | apply Kd.R_alloc | apply Kd.R_drewN | apply Kd.R_drew)); exact HO_5.out⟩, ⟨by (with_reducible repeat (first | apply Kd.R_alloc | apply Kd.R_drewN | apply Kd.R_drew)); exact HO_24.out⟩, ⟨by (with_reducible repeat (first | refine blk_drewN ?_ _ | refine blk_drew ?_ | refine blk_alloc ?_ _)); exact BK343.out⟩, ⟨by (with_reducible repeat (first | refine blk_drewN ?_ _ | refine blk_drew ?_ | refine blk_alloc ?_ _)); exact BK344.out⟩, ⟨belowG⟩⟩
       rw [if_neg c27] at H
       exact absurd H (by simp)
      rw [if_neg c26] at H
      exact absurd H (by simp)
     rw [if_neg c25] at H; have c25b0 : decide (x26_1 < (y353.length : Int)) = false := decide_eq_false c25; clear c25
     by_cases c36 : 0 ≤ x6_1
     ·rw [if_pos c36] at H
      have c36b0 := eq_true c36; have c36b1 : decide (0 ≤ x6_1) = true := decide_eq_true c36; clear c36
      by_cases c37 : x6_1 ≤ (y353.length : Int)
      ·rw [if_pos c37] at H
       have c37b0 := eq_true c37; have c37b1 : decide (x6_1 ≤ (y353.length : Int)) = true := decide_eq_true c37; clear c37; obtain ⟨y358, hy358⟩ : ∃ y_ : List Int, y_ = (y353.take (x6_1 : Int).toNat) := ⟨_, rfl⟩
       replace H : ((impl_normal.f a0_0 y358).bind fun t362 => ((W_impl_write.f t362).bind fun t365 => ((W_impl_write.f (y353.drop (x6_1 : Int).toNat)).bind fun t370 => (if (t370.size : Int) > 1000 then (some (8, 0, (⟨#[]⟩ : ByteArray), (⟨#[]⟩ : ByteArray))) else ((impl_long.f t365).bind fun t371 => (if t371 = true then (some (2, 0, (⟨#[]⟩ : ByteArray), (⟨#[]⟩ : ByteArray))) else (some (0, a0_0, t370, t365)))))))) = some (r1, r2, r3, r4) := by first | (rw [hy358]; with_reducible exact H) | (have H2_ := (Option.bind_some _ _).symm.trans H; rw [hy358]; with_reducible exact H2_) | (have H2_ := (Option.bind_some _ _).symm.trans H; with_reducible exact H2_) | with_reducible exact H | (rw [hy358]; exact H) | exact H
       have Ny358 := Aside0.mk hy358; clear hy358; replace H := Option.bind_eq_some_iff.mp H; obtain ⟨t362, A380, H⟩ := H
       try dsimp only at H
       have A38 := Aside0.mk A380; clear A380; replace H := Option.bind_eq_some_iff.mp H; obtain ⟨t365, A390, H⟩ := H
       try dsimp only at H
       have A39 := Aside0.mk A390; clear A390; have c40b0 := eq_true (ode : 0 ≤ x6_1); have c41b0 := eq_true (ode : x6_1 ≤ (y353.length : Int)); obtain ⟨y366, hy366⟩ : ∃ y_ : List Int, y_ = (y353.drop (x6_1 : Int).toNat) := ⟨_, rfl⟩
       replace H : ((W_impl_write.f y366).bind fun t370 => (if (t370.size : Int) > 1000 then (some (8, 0, (⟨#[]⟩ : ByteArray), (⟨#[]⟩ : ByteArray))) else ((impl_long.f t365).bind fun t371 => (if t371 = true then (some (2, 0, (⟨#[]⟩ : ByteArray), (⟨#[]⟩ : ByteArray))) else (some (0, a0_0, t370, t365)))))) = some (r1, r2, r3, r4) := by first | (rw [hy366]; with_reducible exact H) | (have H2_ := (Option.bind_some _ _).symm.trans H; rw [hy366]; with_reducible exact H2_) | (have H2_ := (Option.bind_some _ _).symm.trans H; with_reducible exact H2_) | with_reducible exact H | (rw [hy366]; exact H) | exact H
       have Ny366 := Aside0.mk hy366; clear hy366; replace H := Option.bind_eq_some_iff.mp H; obtain ⟨t370, A420, H⟩ := H
       try dsimp only at H
       have A42 := Aside0.mk A420; clear A420
       by_cases c43 : (t370.size : Int) > 1000
       ·rw [if_pos c43] at H
        have c43b0 : decide (1000 < (t370.size : Int)) = true := decide_eq_true c43
        have c43b1 : decide (1000 < t370.size) = true := decide_eq_true (by omega)
        clear c43; simp only [Option.some.injEq, Prod.mk.injEq] at H; obtain ⟨rfl, rfl, rfl, rfl⟩ := H
        try go_wp2
        have n0_ := Aside0.mk (Kd.R_drew HO_5.out); have n1_ := Aside0.mk (Kd.R_drew HO_24.out); have n2_ := Aside0.mk (blk_drew BK343.out); have n3_ := Aside0.mk (blk_drew BK344.out); have n4_ := Aside0.mk (below_drew1 HB.out); clear HO_5; clear HO_24; clear BK343; clear BK344; clear HB; have HO_5 := n0_; have HO_24 := n1_; have BK343 := n2_; have BK344 := n3_; have HB := n4_; clear n0_ n1_ n2_ n3_ n4_; have q45 : (x6_1 : Int) ≤ ((y353.length : Int) : Int) := ode; obtain ⟨i045, hi045, _, hsz45, _⟩ := info_parts info2; have hroom45 : y353.length ≤ co24 := (Kd.R_reads' HO_5.out).2.1; have hC45 : Kd.C (Kd.int .i64) _ Ao24 y353.length y353 := (Kd.R_reads' HO_5.out).2.2; have hcut45 := cut_to (P := Tryd.prog) 28 2 .i64 Tryd.underlying28 hi045 Ao24 y353.length co24 x6_1 (ode) q45 hroom45
        have hr45 := Kd.C_take (m := (x6_1 : Int).toNat) hC45 (by omega)
        have hy45 : y358.length = (x6_1 : Int).toNat := (by rw [Ny358.out, List.length_take]; omega)
        rw [← Ny358.out] at hr45; rw [← hy45] at hcut45; have HR361 := Aside0.mk hr45
        have HC361 := Aside0.mk (show y358.length ≤ co24 from by omega)
        clear hr45 hC45 hroom45 hi045 hsz45; have KY45 := Aside0.mk hy45; clear hy45
        have KL45 := Aside0.mk (show (x6_1 : Int).toNat ≤ y353.length from by omega)
        replace q45 := eq_true q45
        refine start_ (n := 8) (S := fun w' => w'.cell? ⟨gb343, 0, none⟩ = some (.int .i64 a0_0) ∧ w'.cell? ⟨gb343, 1, none⟩ = some (.string a0_1)) (ds := []) #[false,false,false,false,false,false,false,false] (by kernel_rfl) rfl rfl ⟨(blk_cell BK343.out 0).trans rfl, (blk_cell BK343.out 1).trans rfl⟩ (fun hHeld => ?_); refine with_tabW impl_FeedNormer.tab13 impl_FeedNormer.bits13 (fun HT_ HW_ => ?_)
        generalize wr.drew = w44 at HO_5 HO_24 BK343 BK344 HB HR361 hHeld ⊢
        refine pure_ (i := 0) (N := some 37) (v := ?_) (a' := ?_) #[true,false,false,false,false,false,false,false] rfl rfl (any_of HT_.out (by kernel_rfl)) (fun _ _ _ h => h) (Or.inl ⟨by rfl, ?_⟩) ?_ ?_
        rotate_left
        ·intro w'
         go_simp; with_reducible rfl
        rotate_left
        ·simp only [Act.put, List.setIfInBounds_toArray, List.set_cons_zero, List.set_cons_succ, i64_w, i32_w]
         rfl
        refine pure_ (i := 2) (N := some 39) (v := ?_) (a' := ?_) #[true,false,true,false,false,false,false,false] rfl rfl (any_of HT_.out (by kernel_rfl)) (fun _ _ _ h => h) (Or.inl ⟨by rfl, ?_⟩) ?_ ?_
        rotate_left
        ·intro w'
         go_simp; with_reducible rfl
        rotate_left
        ·simp only [Act.put, List.setIfInBounds_toArray, List.set_cons_zero, List.set_cons_succ, i64_w, i32_w]
         rfl
        refine pure_ (i := 3) (N := some 40) (v := ?_) (a' := ?_) #[true,false,true,true,false,false,false,false] rfl rfl (any_of HT_.out (by kernel_rfl)) (fun _ _ _ h => h) (Or.inl ⟨by rfl, ?_⟩) ?_ ?_
        rotate_left
        ·intro w'
         go_simp; with_reducible rfl
        rotate_left
        ·simp only [Act.put, List.setIfInBounds_toArray, List.set_cons_zero, List.set_cons_succ, i64_w, i32_w]
         rfl
        refine pure_ (i := 4) (N := some 41) (v := ?_) (a' := ?_) #[true,false,true,true,true,false,false,false] rfl rfl (any_of HT_.out (by kernel_rfl)) (fun _ _ _ h => h) (Or.inl ⟨by rfl, ?_⟩) ?_ ?_
        rotate_left
        ·intro w'
         go_simp; with_reducible rfl
        rotate_left
        ·simp only [Act.put, List.setIfInBounds_toArray, List.set_cons_zero, List.set_cons_succ, i64_w, i32_w]
         rfl
        refine take_ (i := 1) (N := some 38) (v := ?_) (a' := ?_) #[true,true,true,true,true,false,false,false] rfl rfl (take_ofW HT_.out HW_.out (by kernel_rfl)) (fun _ _ _ h => h) (Or.inl ⟨by rfl, ?_⟩) hHeld ?_ ?_
        rotate_left
        ·rintro w' ⟨s0, s1⟩
         go_simp; with_reducible rfl
        rotate_left
        ·simp only [Act.put, List.setIfInBounds_toArray, List.set_cons_zero, List.set_cons_succ, i64_w, i32_w]
         rfl
        refine one_ (i := 5) (N := some 42) #[true,true,true,true,true,true,false,false] rfl rfl (one_of HT_.out (by kernel_rfl)) (by decide) (fun K hK => ?_)
        refine goes_ Tryd.func94 (by kernel_rfl) rfl #[.int .i64 a0_0, .slice Ao24 y358.length co24] (by rfl) rfl rfl (by (try simp only [List.map_toArray, List.map_cons, List.map_nil]); first | done | rfl | (simp only [List.length_drop, List.length_take]; rfl)) ?_
        with_reducible refine (impl_normal.calls a0_0 _ _ y358 t362 _ ?side1 ?side2 A38.out).mono ?_
        (case side1 => repeat (first | exact (by repeat (first | (with_reducible exact HR361.out) | (with_reducible refine Kd.C_alloc ?_ _) | (with_reducible refine Kd.C_drewN ?_ _) | (with_reducible refine Kd.C_drew ?_) | exact HR361.out)) | (with_reducible refine Kd.C_alloc ?_ _) | (with_reducible refine Kd.C_drewN ?_ _) | (with_reducible refine Kd.C_drew ?_)))
        (case side2 => exact HC361.out)
        rintro e w46 ⟨v363, rfl, ho0, hb⟩; refine ⟨_, rfl, ?_⟩
        have n0_ := Aside0.mk (Kd.R_elder' (by (with_reducible repeat (first | apply Kd.R_alloc | apply Kd.R_drewN | apply Kd.R_drew)); exact HO_5.out) (Kd.R_base ho0) hb)
        have n1_ := Aside0.mk (Kd.R_elder' (by (with_reducible repeat (first | apply Kd.R_alloc | apply Kd.R_drewN | apply Kd.R_drew)); exact HO_24.out) (Kd.R_base ho0) hb)
        have n2_ := Aside0.mk (Kd.R_lower (Kd.R_new' (Kd.R_new' ho0 (Kd.R_lt (by (with_reducible repeat (first | apply Kd.R_alloc | apply Kd.R_drewN | apply Kd.R_drew)); exact HO_5.out))) (Kd.R_lt (by (with_reducible repeat (first | apply Kd.R_alloc | apply Kd.R_drewN | apply Kd.R_drew)); exact HO_24.out))) (below_size (belowG)))
        have n3_ := bkb BK343.out hb; have n4_ := bkb BK344.out hb; have n5_ := cbb HR361.out hb; have n6_ := Aside0.mk (below_step (belowG) hb); clear HO_5; clear HO_24; clear BK343; clear BK344; clear HR361; clear HB; have HO_5 := n0_; have HO_24 := n1_; have HO364 := n2_; have BK343 := n3_; have BK344 := n4_; have HR361 := n5_; have HB := n6_; clear n0_ n1_ n2_ n3_ n4_ n5_ n6_
        (try clear hb)
        (try clear hb2)
        (try clear hk)
        (try clear hi)
        (try clear ho0)
        obtain ⟨Ao47, co47, eo47⟩ := Kd.R_slice HO364.out
        (first | subst eo47 | (injection eo47 with f1_ f2_ f3_; have f4_ := f1_.symm; have f5_ := f3_.symm; clear f1_ f2_ f3_; subst f4_; subst f5_))
        refine hK.out _ _ ⟨(blk_cell BK343.out 0).trans rfl, (blk_cell BK343.out 1).trans rfl⟩ (fun hHeld => ?_)
        clear hK K
        refine norm_ (a' := ?_) ?_ ?_
        rotate_left
        ·show Act.put _ (some 42) _ = _
         simp only [Act.put, List.setIfInBounds_toArray, List.set_cons_zero, List.set_cons_succ, i64_w, i32_w]; rfl
        refine one_ (i := 6) (N := some 43) #[true,true,true,true,true,true,true,false] rfl rfl (one_of HT_.out (by kernel_rfl)) (by decide) (fun K hK => ?_)
        refine goes_ Tryd.func93 (by kernel_rfl) rfl #[.slice Ao47 t362.length co47] (by rfl) rfl rfl (by (try simp only [List.map_toArray, List.map_cons, List.map_nil]); first | done | rfl | (simp only [List.length_drop, List.length_take]; rfl)) ?_
        with_reducible refine (W_impl_write.calls _ _ t362 t365 _ ?side1 ?side2 A39.out).mono ?_
        (case side1 => repeat (first | exact (Kd.R_reads' HO364.out).2.2 | (with_reducible refine Kd.C_alloc ?_ _) | (with_reducible refine Kd.C_drewN ?_ _) | (with_reducible refine Kd.C_drew ?_)))
        (case side2 => exact (Kd.R_reads' HO364.out).2.1)
        rintro e w48 ⟨rfl, hb⟩; refine ⟨_, rfl, ?_⟩; have n0_ := rbb HO_5.out hb; have n1_ := rbb HO_24.out hb; have n2_ := rbb HO364.out hb; have n3_ := bkb BK343.out hb; have n4_ := bkb BK344.out hb; have n5_ := cbb HR361.out hb; have n6_ := Aside0.mk (below_step (belowG) hb); clear HO_5; clear HO_24; clear HO364; clear BK343; clear BK344; clear HR361; clear HB; have HO_5 := n0_; have HO_24 := n1_; have HO364 := n2_; have BK343 := n3_; have BK344 := n4_; have HR361 := n5_; have HB := n6_; clear n0_ n1_ n2_ n3_ n4_ n5_ n6_
        (try clear hb)
        (try clear hb2)
        (try clear hk)
        (try clear hi)
        refine hK.out _ _ ⟨(blk_cell BK343.out 0).trans rfl, (blk_cell BK343.out 1).trans rfl⟩ (fun hHeld => ?_)
        clear hK K
        refine norm_ (a' := ?_) ?_ ?_
        rotate_left
        ·show Act.put _ (some 43) _ = _
         simp only [Act.put, List.setIfInBounds_toArray, List.set_cons_zero, List.set_cons_succ, i64_w, i32_w]; rfl
        refine pure_ (i := 7) (N := some 9) (v := ?_) (a' := ?_) #[true,true,true,true,true,true,true,true] rfl rfl (any_of HT_.out (by kernel_rfl)) (fun _ _ _ h => h) (Or.inl ⟨by rfl, ?_⟩) ?_ ?_
        rotate_left
        ·intro w'
         go_simp; with_reducible rfl
        rotate_left
        ·simp only [Act.put, List.setIfInBounds_toArray, List.set_cons_zero, List.set_cons_succ, i64_w, i32_w]
         rfl
        refine done_ (done_of HT_.out (by kernel_rfl)) ?_
        have q49 : (x6_1 : Int) ≤ ((y353.length : Int) : Int) := ode; obtain ⟨i049, hi049, _, hsz49, _⟩ := info_parts info2; have hroom49 : y353.length ≤ co24 := (Kd.R_reads' HO_5.out).2.1; have hC49 : Kd.C (Kd.int .i64) _ Ao24 y353.length y353 := (Kd.R_reads' HO_5.out).2.2; have q049 : (0 : Int) ≤ (x6_1 : Int) := ode; have hcut49 := cut_from (P := Tryd.prog) 28 2 .i64 Tryd.underlying28 hi049 1 hsz49 Ao24 y353.length co24 x6_1 q049 q49
        have hr49 := Kd.C_drop (m := (x6_1 : Int).toNat) (c := co24) hC49 (by omega) hroom49
        obtain ⟨A49, hA49⟩ : ∃ A1, A1 = (if co24 = (x6_1 : Int).toNat then Ao24 else (Ao24 : Option Addr).map (·.add ((x6_1 : Int).toNat * 1))) := ⟨_, rfl⟩; obtain ⟨c49, hc49⟩ : ∃ c1, c1 = co24 - (x6_1 : Int).toNat := ⟨_, rfl⟩
        have hy49 : y366.length = y353.length - (x6_1 : Int).toNat := (by rw [Ny366.out, List.length_drop] <;> omega)
        rw [show (y353).drop (x6_1 : Int).toNat = y366 from Ny366.out.symm] at hr49
        replace hr49 : Kd.C (Kd.int .i64) _ A49 y366.length y366 := (by rw [hA49]; exact hr49)
        rw [← hy49, ← hA49, ← hc49] at hcut49; have HR369 := Aside0.mk hr49
        have HC369 := Aside0.mk (show y366.length ≤ c49 from by rw [hy49, hc49]; exact Nat.sub_le_sub_right hroom49 _)
        clear hr49 hC49 hroom49 hi049 hsz49 hc49; have KY49 := Aside0.mk hy49; have KA49 := Aside0.mk hA49; clear hy49 hA49
        have KL49 := Aside0.mk (show (x6_1 : Int).toNat ≤ y353.length from by omega)
        replace q49 := eq_true q49
        try go_wp2_with (first | (go_at_call 93; (with_reducible refine (W_impl_write.calls _ _ y366 t370 _ ?side1 ?side2 A42.out).mono ?_); (case side1 => repeat (first | exact (by repeat (first | (with_reducible exact HR369.out) | (with_reducible refine Kd.C_alloc ?_ _) | (with_reducible refine Kd.C_drewN ?_ _) | (with_reducible refine Kd.C_drew ?_) | exact HR369.out)) | (with_reducible refine Kd.C_alloc ?_ _) | (with_reducible refine Kd.C_drewN ?_ _) | (with_reducible refine Kd.C_drew ?_))); (case side2 => exact HC369.out); rintro e w50 ⟨rfl, hb⟩; have n0_ := rbb HO_5.out hb; have n1_ := rbb HO_24.out hb; have n2_ := rbb HO364.out hb; have n3_ := bkb BK343.out hb; have n4_ := bkb BK344.out hb; have n5_ := cbb HR361.out hb; have n6_ := cbb HR369.out hb; have n7_ := Aside0.mk (below_step (belowG) hb); replace HO_5 := n0_; replace HO_24 := n1_; replace HO364 := n2_; replace BK343 := n3_; replace BK344 := n4_; replace HR361 := n5_; replace HR369 := n6_; replace HB := n7_; clear n0_ n1_ n2_ n3_ n4_ n5_ n6_ n7_; clear hb; have hnb51 := NB344_343.out; have hnc51 := NB343_344.out; have hcz52_0 : w50.cell? ⟨gb344, 0, none⟩ = some (.int .i64 0) := (blk_cell BK344.out 0).trans rfl; have hcz52_1 : w50.cell? ⟨gb344, 1, none⟩ = some (.int .i64 0) := (blk_cell BK344.out 1).trans rfl; have hcz52_2 : w50.cell? ⟨gb344, 2, none⟩ = some (.string (⟨#[]⟩ : ByteArray)) := (blk_cell BK344.out 2).trans rfl; have hcz52_3 : w50.cell? ⟨gb344, 3, none⟩ = some (.string (⟨#[]⟩ : ByteArray)) := (blk_cell BK344.out 3).trans rfl; have hfz52_0 := blk_frozen BK344.out 0; have hfz52_1 := blk_frozen BK344.out 1; have hfz52_2 := blk_frozen BK344.out 2; have hfz52_3 := blk_frozen BK344.out 3))
        refine bodyPost_ret (results_cell_row rfl _ _ gb344 32 #[.int .i64 8, .int .i64 0, .string (⟨#[]⟩ : ByteArray), .string (⟨#[]⟩ : ByteArray)] (0, 0) _ rfl (by (with_reducible repeat (first | refine blk_drewN ?_ _ | refine blk_drew ?_ | refine blk_alloc ?_ _)); refine blk_put (cs := #[.int .i64 8, .int .i64 0, .string (⟨#[]⟩ : ByteArray), .string (⟨#[]⟩ : ByteArray)]) ?_ 3 _ rfl; (with_reducible repeat (first | refine blk_drewN ?_ _ | refine blk_drew ?_ | refine blk_alloc ?_ _)); refine blk_put (cs := #[.int .i64 8, .int .i64 0, .string (⟨#[]⟩ : ByteArray), .string (⟨#[]⟩ : ByteArray)]) ?_ 2 _ rfl; (with_reducible repeat (first | refine blk_drewN ?_ _ | refine blk_drew ?_ | refine blk_alloc ?_ _)); refine blk_put (cs := #[.int .i64 8, .int .i64 0, .string (⟨#[]⟩ : ByteArray), .string (⟨#[]⟩ : ByteArray)]) ?_ 1 _ rfl; (with_reducible repeat (first | refine blk_drewN ?_ _ | refine blk_drew ?_ | refine blk_alloc ?_ _)); refine blk_put (cs := #[.int .i64 0, .int .i64 0, .string (⟨#[]⟩ : ByteArray), .string (⟨#[]⟩ : ByteArray)]) ?_ 0 _ rfl; (with_reducible repeat (first | refine blk_drewN ?_ _ | refine blk_drew ?_ | refine blk_alloc ?_ _)); exact BK344.out) Tryd.underlying32 rfl (by kernel_rfl)) rfl ?_
        exact ⟨by first | rfl | (simp [errW_none, errW_some] <;> rfl) | (simp [*, errW_none, errW_some] <;> rfl), belowG⟩
       rw [if_neg c43] at H; have c43b0 : decide (1000 < (t370.size : Int)) = false := decide_eq_false c43
       have c43b1 : decide (1000 < t370.size) = false := decide_eq_false (by omega)
       clear c43; replace H := Option.bind_eq_some_iff.mp H; obtain ⟨t371, A530, H⟩ := H
       try dsimp only at H
       have A53 := Aside0.mk A530; clear A530
       by_cases c54 : t371 = true
       ·subst c54
        have H1 : (some (2, 0, (⟨#[]⟩ : ByteArray), (⟨#[]⟩ : ByteArray))) = some (r1, r2, r3, r4) := by rw [if_pos rfl] at H; exact H
        clear H; have H := H1; clear H1; simp only [Option.some.injEq, Prod.mk.injEq] at H; obtain ⟨rfl, rfl, rfl, rfl⟩ := H
        try go_wp2
        have n0_ := Aside0.mk (Kd.R_drew HO_5.out); have n1_ := Aside0.mk (Kd.R_drew HO_24.out); have n2_ := Aside0.mk (blk_drew BK343.out); have n3_ := Aside0.mk (blk_drew BK344.out); have n4_ := Aside0.mk (below_drew1 HB.out); clear HO_5; clear HO_24; clear BK343; clear BK344; clear HB; have HO_5 := n0_; have HO_24 := n1_; have BK343 := n2_; have BK344 := n3_; have HB := n4_; clear n0_ n1_ n2_ n3_ n4_; have q56 : (x6_1 : Int) ≤ ((y353.length : Int) : Int) := ode; obtain ⟨i056, hi056, _, hsz56, _⟩ := info_parts info2; have hroom56 : y353.length ≤ co24 := (Kd.R_reads' HO_5.out).2.1; have hC56 : Kd.C (Kd.int .i64) _ Ao24 y353.length y353 := (Kd.R_reads' HO_5.out).2.2; have hcut56 := cut_to (P := Tryd.prog) 28 2 .i64 Tryd.underlying28 hi056 Ao24 y353.length co24 x6_1 (ode) q56 hroom56
        have hr56 := Kd.C_take (m := (x6_1 : Int).toNat) hC56 (by omega)
        have hy56 : y358.length = (x6_1 : Int).toNat := (by rw [Ny358.out, List.length_take]; omega)
        rw [← Ny358.out] at hr56; rw [← hy56] at hcut56; have HR361 := Aside0.mk hr56
        have HC361 := Aside0.mk (show y358.length ≤ co24 from by omega)
        clear hr56 hC56 hroom56 hi056 hsz56; have KY56 := Aside0.mk hy56; clear hy56
        have KL56 := Aside0.mk (show (x6_1 : Int).toNat ≤ y353.length from by omega)
        replace q56 := eq_true q56
        refine start_ (n := 8) (S := fun w' => w'.cell? ⟨gb343, 0, none⟩ = some (.int .i64 a0_0) ∧ w'.cell? ⟨gb343, 1, none⟩ = some (.string a0_1)) (ds := []) #[false,false,false,false,false,false,false,false] (by kernel_rfl) rfl rfl ⟨(blk_cell BK343.out 0).trans rfl, (blk_cell BK343.out 1).trans rfl⟩ (fun hHeld => ?_); refine with_tabW impl_FeedNormer.tab13 impl_FeedNormer.bits13 (fun HT_ HW_ => ?_)
        generalize wr.drew = w55 at HO_5 HO_24 BK343 BK344 HB HR361 hHeld ⊢
        refine pure_ (i := 0) (N := some 37) (v := ?_) (a' := ?_) #[true,false,false,false,false,false,false,false] rfl rfl (any_of HT_.out (by kernel_rfl)) (fun _ _ _ h => h) (Or.inl ⟨by rfl, ?_⟩) ?_ ?_
        rotate_left
        ·intro w'
         go_simp; with_reducible rfl
        rotate_left
        ·simp only [Act.put, List.setIfInBounds_toArray, List.set_cons_zero, List.set_cons_succ, i64_w, i32_w]
         rfl
        refine pure_ (i := 2) (N := some 39) (v := ?_) (a' := ?_) #[true,false,true,false,false,false,false,false] rfl rfl (any_of HT_.out (by kernel_rfl)) (fun _ _ _ h => h) (Or.inl ⟨by rfl, ?_⟩) ?_ ?_
        rotate_left
        ·intro w'
         go_simp; with_reducible rfl
        rotate_left
        ·simp only [Act.put, List.setIfInBounds_toArray, List.set_cons_zero, List.set_cons_succ, i64_w, i32_w]
         rfl
        refine pure_ (i := 3) (N := some 40) (v := ?_) (a' := ?_) #[true,false,true,true,false,false,false,false] rfl rfl (any_of HT_.out (by kernel_rfl)) (fun _ _ _ h => h) (Or.inl ⟨by rfl, ?_⟩) ?_ ?_
        rotate_left
        ·intro w'
         go_simp; with_reducible rfl
        rotate_left
        ·simp only [Act.put, List.setIfInBounds_toArray, List.set_cons_zero, List.set_cons_succ, i64_w, i32_w]
         rfl
        refine pure_ (i := 4) (N := some 41) (v := ?_) (a' := ?_) #[true,false,true,true,true,false,false,false] rfl rfl (any_of HT_.out (by kernel_rfl)) (fun _ _ _ h => h) (Or.inl ⟨by rfl, ?_⟩) ?_ ?_
        rotate_left
        ·intro w'
         go_simp; with_reducible rfl
        rotate_left
        ·simp only [Act.put, List.setIfInBounds_toArray, List.set_cons_zero, List.set_cons_succ, i64_w, i32_w]
         rfl
        refine take_ (i := 1) (N := some 38) (v := ?_) (a' := ?_) #[true,true,true,true,true,false,false,false] rfl rfl (take_ofW HT_.out HW_.out (by kernel_rfl)) (fun _ _ _ h => h) (Or.inl ⟨by rfl, ?_⟩) hHeld ?_ ?_
        rotate_left
        ·rintro w' ⟨s0, s1⟩
         go_simp; with_reducible rfl
        rotate_left
        ·simp only [Act.put, List.setIfInBounds_toArray, List.set_cons_zero, List.set_cons_succ, i64_w, i32_w]
         rfl
        refine one_ (i := 5) (N := some 42) #[true,true,true,true,true,true,false,false] rfl rfl (one_of HT_.out (by kernel_rfl)) (by decide) (fun K hK => ?_)
        refine goes_ Tryd.func94 (by kernel_rfl) rfl #[.int .i64 a0_0, .slice Ao24 y358.length co24] (by rfl) rfl rfl (by (try simp only [List.map_toArray, List.map_cons, List.map_nil]); first | done | rfl | (simp only [List.length_drop, List.length_take]; rfl)) ?_
        with_reducible refine (impl_normal.calls a0_0 _ _ y358 t362 _ ?side1 ?side2 A38.out).mono ?_
        (case side1 => repeat (first | exact (by repeat (first | (with_reducible exact HR361.out) | (with_reducible refine Kd.C_alloc ?_ _) | (with_reducible refine Kd.C_drewN ?_ _) | (with_reducible refine Kd.C_drew ?_) | exact HR361.out)) | (with_reducible refine Kd.C_alloc ?_ _) | (with_reducible refine Kd.C_drewN ?_ _) | (with_reducible refine Kd.C_drew ?_)))
        (case side2 => exact HC361.out)
        rintro e w57 ⟨v363, rfl, ho0, hb⟩; refine ⟨_, rfl, ?_⟩
        have n0_ := Aside0.mk (Kd.R_elder' (by (with_reducible repeat (first | apply Kd.R_alloc | apply Kd.R_drewN | apply Kd.R_drew)); exact HO_5.out) (Kd.R_base ho0) hb)
        have n1_ := Aside0.mk (Kd.R_elder' (by (with_reducible repeat (first | apply Kd.R_alloc | apply Kd.R_drewN | apply Kd.R_drew)); exact HO_24.out) (Kd.R_base ho0) hb)
        have n2_ := Aside0.mk (Kd.R_lower (Kd.R_new' (Kd.R_new' ho0 (Kd.R_lt (by (with_reducible repeat (first | apply Kd.R_alloc | apply Kd.R_drewN | apply Kd.R_drew)); exact HO_5.out))) (Kd.R_lt (by (with_reducible repeat (first | apply Kd.R_alloc | apply Kd.R_drewN | apply Kd.R_drew)); exact HO_24.out))) (below_size (belowG)))
        have n3_ := bkb BK343.out hb; have n4_ := bkb BK344.out hb; have n5_ := cbb HR361.out hb; have n6_ := Aside0.mk (below_step (belowG) hb); clear HO_5; clear HO_24; clear BK343; clear BK344; clear HR361; clear HB; have HO_5 := n0_; have HO_24 := n1_; have HO364 := n2_; have BK343 := n3_; have BK344 := n4_; have HR361 := n5_; have HB := n6_; clear n0_ n1_ n2_ n3_ n4_ n5_ n6_
        (try clear hb)
        (try clear hb2)
        (try clear hk)
        (try clear hi)
        (try clear ho0)
        obtain ⟨Ao58, co58, eo58⟩ := Kd.R_slice HO364.out
        (first | subst eo58 | (injection eo58 with f1_ f2_ f3_; have f4_ := f1_.symm; have f5_ := f3_.symm; clear f1_ f2_ f3_; subst f4_; subst f5_))
        refine hK.out _ _ ⟨(blk_cell BK343.out 0).trans rfl, (blk_cell BK343.out 1).trans rfl⟩ (fun hHeld => ?_)
        clear hK K
        refine norm_ (a' := ?_) ?_ ?_
        rotate_left
        ·show Act.put _ (some 42) _ = _
         simp only [Act.put, List.setIfInBounds_toArray, List.set_cons_zero, List.set_cons_succ, i64_w, i32_w]; rfl
        refine one_ (i := 6) (N := some 43) #[true,true,true,true,true,true,true,false] rfl rfl (one_of HT_.out (by kernel_rfl)) (by decide) (fun K hK => ?_)
        refine goes_ Tryd.func93 (by kernel_rfl) rfl #[.slice Ao58 t362.length co58] (by rfl) rfl rfl (by (try simp only [List.map_toArray, List.map_cons, List.map_nil]); first | done | rfl | (simp only [List.length_drop, List.length_take]; rfl)) ?_
        with_reducible refine (W_impl_write.calls _ _ t362 t365 _ ?side1 ?side2 A39.out).mono ?_
        (case side1 => repeat (first | exact (Kd.R_reads' HO364.out).2.2 | (with_reducible refine Kd.C_alloc ?_ _) | (with_reducible refine Kd.C_drewN ?_ _) | (with_reducible refine Kd.C_drew ?_)))
        (case side2 => exact (Kd.R_reads' HO364.out).2.1)
        rintro e w59 ⟨rfl, hb⟩; refine ⟨_, rfl, ?_⟩; have n0_ := rbb HO_5.out hb; have n1_ := rbb HO_24.out hb; have n2_ := rbb HO364.out hb; have n3_ := bkb BK343.out hb; have n4_ := bkb BK344.out hb; have n5_ := cbb HR361.out hb; have n6_ := Aside0.mk (below_step (belowG) hb); clear HO_5; clear HO_24; clear HO364; clear BK343; clear BK344; clear HR361; clear HB; have HO_5 := n0_; have HO_24 := n1_; have HO364 := n2_; have BK343 := n3_; have BK344 := n4_; have HR361 := n5_; have HB := n6_; clear n0_ n1_ n2_ n3_ n4_ n5_ n6_
        (try clear hb)
        (try clear hb2)
        (try clear hk)
        (try clear hi)
        refine hK.out _ _ ⟨(blk_cell BK343.out 0).trans rfl, (blk_cell BK343.out 1).trans rfl⟩ (fun hHeld => ?_)
        clear hK K
        refine norm_ (a' := ?_) ?_ ?_
        rotate_left
        ·show Act.put _ (some 43) _ = _
         simp only [Act.put, List.setIfInBounds_toArray, List.set_cons_zero, List.set_cons_succ, i64_w, i32_w]; rfl
        refine pure_ (i := 7) (N := some 9) (v := ?_) (a' := ?_) #[true,true,true,true,true,true,true,true] rfl rfl (any_of HT_.out (by kernel_rfl)) (fun _ _ _ h => h) (Or.inl ⟨by rfl, ?_⟩) ?_ ?_
        rotate_left
        ·intro w'
         go_simp; with_reducible rfl
        rotate_left
        ·simp only [Act.put, List.setIfInBounds_toArray, List.set_cons_zero, List.set_cons_succ, i64_w, i32_w]
         rfl
        refine done_ (done_of HT_.out (by kernel_rfl)) ?_
        have q60 : (x6_1 : Int) ≤ ((y353.length : Int) : Int) := ode; obtain ⟨i060, hi060, _, hsz60, _⟩ := info_parts info2; have hroom60 : y353.length ≤ co24 := (Kd.R_reads' HO_5.out).2.1; have hC60 : Kd.C (Kd.int .i64) _ Ao24 y353.length y353 := (Kd.R_reads' HO_5.out).2.2; have q060 : (0 : Int) ≤ (x6_1 : Int) := ode; have hcut60 := cut_from (P := Tryd.prog) 28 2 .i64 Tryd.underlying28 hi060 1 hsz60 Ao24 y353.length co24 x6_1 q060 q60
        have hr60 := Kd.C_drop (m := (x6_1 : Int).toNat) (c := co24) hC60 (by omega) hroom60
        obtain ⟨A60, hA60⟩ : ∃ A1, A1 = (if co24 = (x6_1 : Int).toNat then Ao24 else (Ao24 : Option Addr).map (·.add ((x6_1 : Int).toNat * 1))) := ⟨_, rfl⟩; obtain ⟨c60, hc60⟩ : ∃ c1, c1 = co24 - (x6_1 : Int).toNat := ⟨_, rfl⟩
        have hy60 : y366.length = y353.length - (x6_1 : Int).toNat := (by rw [Ny366.out, List.length_drop] <;> omega)
        rw [show (y353).drop (x6_1 : Int).toNat = y366 from Ny366.out.symm] at hr60
        replace hr60 : Kd.C (Kd.int .i64) _ A60 y366.length y366 := (by rw [hA60]; exact hr60)
        rw [← hy60, ← hA60, ← hc60] at hcut60; have HR369 := Aside0.mk hr60
        have HC369 := Aside0.mk (show y366.length ≤ c60 from by rw [hy60, hc60]; exact Nat.sub_le_sub_right hroom60 _)
        clear hr60 hC60 hroom60 hi060 hsz60 hc60; have KY60 := Aside0.mk hy60; have KA60 := Aside0.mk hA60; clear hy60 hA60
        have KL60 := Aside0.mk (show (x6_1 : Int).toNat ≤ y353.length from by omega)
        replace q60 := eq_true q60
        try go_wp2_with (first | (go_at_call 93; (with_reducible refine (W_impl_write.calls _ _ y366 t370 _ ?side1 ?side2 A42.out).mono ?_); (case side1 => repeat (first | exact (by repeat (first | (with_reducible exact HR369.out) | (with_reducible refine Kd.C_alloc ?_ _) | (with_reducible refine Kd.C_drewN ?_ _) | (with_reducible refine Kd.C_drew ?_) | exact HR369.out)) | (with_reducible refine Kd.C_alloc ?_ _) | (with_reducible refine Kd.C_drewN ?_ _) | (with_reducible refine Kd.C_drew ?_))); (case side2 => exact HC369.out); rintro e w61 ⟨rfl, hb⟩; have n0_ := rbb HO_5.out hb; have n1_ := rbb HO_24.out hb; have n2_ := rbb HO364.out hb; have n3_ := bkb BK343.out hb; have n4_ := bkb BK344.out hb; have n5_ := cbb HR361.out hb; have n6_ := cbb HR369.out hb; have n7_ := Aside0.mk (below_step (belowG) hb); replace HO_5 := n0_; replace HO_24 := n1_; replace HO364 := n2_; replace BK343 := n3_; replace BK344 := n4_; replace HR361 := n5_; replace HR369 := n6_; replace HB := n7_; clear n0_ n1_ n2_ n3_ n4_ n5_ n6_ n7_; clear hb) | (go_at_call 86; (with_reducible refine (impl_long.calls t365 true _ A53.out).mono ?_); rintro e w' ⟨rfl, ⟨nd, rfl⟩⟩; (try (rw [drewN_self w61]; generalize hq_ : World.drewN w61 _ = w61; have n0_ : Aside0 (Kd.R (Kd.int .i64) 2 w61 w.heap.size (fun k_ => some k_ ≠ (.slice Ao24 y353.length co24 : Value).ownBlock ∧ some k_ ≠ (.slice Ao24 y353.length co24 : Value).ownBlock) (.slice Ao58 t362.length co58) t362) := ⟨by rw [← hq_]; exact (by (with_reducible repeat (first | apply Kd.R_alloc | apply Kd.R_drewN | apply Kd.R_drew)); exact Kd.R_mono HO364.out (fun _ hk => ⟨hk.2, hk.1.2⟩))⟩; have n1_ : Aside0 (Kd.R (Kd.int .i64) 2 w61 w.heap.size (fun k_ => some k_ ≠ (.slice Ao58 t362.length co58 : Value).ownBlock) (.slice Ao24 y353.length co24) y353) := ⟨by rw [← hq_]; exact (by (with_reducible repeat (first | apply Kd.R_alloc | apply Kd.R_drewN | apply Kd.R_drew)); exact Kd.R_mono HO_24.out (fun _ hk => hk.2))⟩; have n2_ : Aside0 (Kd.R (Kd.int .i64) 2 w61 w.heap.size (fun k_ => some k_ ≠ (.slice Ao58 t362.length co58 : Value).ownBlock) (.slice Ao24 y353.length co24) y353) := ⟨by rw [← hq_]; exact (by (with_reducible repeat (first | apply Kd.R_alloc | apply Kd.R_drewN | apply Kd.R_drew)); exact Kd.R_mono HO_5.out (fun _ hk => hk.2))⟩; have n3_ : Aside0 (w61.heap[gb343]? = some (.cells #[.int .i64 a0_0, .string a0_1] 27 (0, 0))) := ⟨by rw [← hq_]; exact (by (with_reducible repeat (first | refine blk_drewN ?_ _ | refine blk_drew ?_ | refine blk_alloc ?_ _)); exact BK343.out)⟩; have n4_ : Aside0 (w61.heap[gb344]? = some (.cells #[.int .i64 0, .int .i64 0, .string (⟨#[]⟩ : ByteArray), .string (⟨#[]⟩ : ByteArray)] 32 (0, 0))) := ⟨by rw [← hq_]; exact (by (with_reducible repeat (first | refine blk_drewN ?_ _ | refine blk_drew ?_ | refine blk_alloc ?_ _)); exact BK344.out)⟩; have n5_ : Aside0 (Below w.heap.size w w61) := ⟨by rw [← hq_]; exact (belowG)⟩; have n6_ : Aside0 (Kd.C (Kd.int .i64) w61 Ao24 y358.length y358) := ⟨by rw [← hq_]; exact (by repeat (first | (with_reducible exact HR361.out) | (with_reducible refine Kd.C_alloc ?_ _) | (with_reducible refine Kd.C_drewN ?_ _) | (with_reducible refine Kd.C_drew ?_) | exact HR361.out))⟩; have n7_ : Aside0 (Kd.C (Kd.int .i64) w61 A60 y366.length y366) := ⟨by rw [← hq_]; exact (by repeat (first | (with_reducible exact HR369.out) | (with_reducible refine Kd.C_alloc ?_ _) | (with_reducible refine Kd.C_drewN ?_ _) | (with_reducible refine Kd.C_drew ?_) | exact HR369.out))⟩; clear HO364 HO_24 HO_5 BK343 BK344 HB HR361 HR369 hq_; have HO364 := n0_; have HO_24 := n1_; have HO_5 := n2_; have BK343 := n3_; have BK344 := n4_; have HB := n5_; have HR361 := n6_; have HR369 := n7_; clear n0_ n1_ n2_ n3_ n4_ n5_ n6_ n7_)); have hnb62 := NB344_343.out; have hnc62 := NB343_344.out; have hcz63_0 : w61.cell? ⟨gb344, 0, none⟩ = some (.int .i64 0) := (blk_cell BK344.out 0).trans rfl; have hcz63_1 : w61.cell? ⟨gb344, 1, none⟩ = some (.int .i64 0) := (blk_cell BK344.out 1).trans rfl; have hcz63_2 : w61.cell? ⟨gb344, 2, none⟩ = some (.string (⟨#[]⟩ : ByteArray)) := (blk_cell BK344.out 2).trans rfl; have hcz63_3 : w61.cell? ⟨gb344, 3, none⟩ = some (.string (⟨#[]⟩ : ByteArray)) := (blk_cell BK344.out 3).trans rfl; have hfz63_0 := blk_frozen BK344.out 0; have hfz63_1 := blk_frozen BK344.out 1; have hfz63_2 := blk_frozen BK344.out 2; have hfz63_3 := blk_frozen BK344.out 3))
        refine bodyPost_ret (results_cell_row rfl _ _ gb344 32 #[.int .i64 2, .int .i64 0, .string (⟨#[]⟩ : ByteArray), .string (⟨#[]⟩ : ByteArray)] (0, 0) _ rfl (by (with_reducible repeat (first | refine blk_drewN ?_ _ | refine blk_drew ?_ | refine blk_alloc ?_ _)); refine blk_put (cs := #[.int .i64 2, .int .i64 0, .string (⟨#[]⟩ : ByteArray), .string (⟨#[]⟩ : ByteArray)]) ?_ 3 _ rfl; (with_reducible repeat (first | refine blk_drewN ?_ _ | refine blk_drew ?_ | refine blk_alloc ?_ _)); refine blk_put (cs := #[.int .i64 2, .int .i64 0, .string (⟨#[]⟩ : ByteArray), .string (⟨#[]⟩ : ByteArray)]) ?_ 2 _ rfl; (with_reducible repeat (first | refine blk_drewN ?_ _ | refine blk_drew ?_ | refine blk_alloc ?_ _)); refine blk_put (cs := #[.int .i64 2, .int .i64 0, .string (⟨#[]⟩ : ByteArray), .string (⟨#[]⟩ : ByteArray)]) ?_ 1 _ rfl; (with_reducible repeat (first | refine blk_drewN ?_ _ | refine blk_drew ?_ | refine blk_alloc ?_ _)); refine blk_put (cs := #[.int .i64 0, .int .i64 0, .string (⟨#[]⟩ : ByteArray), .string (⟨#[]⟩ : ByteArray)]) ?_ 0 _ rfl; (with_reducible repeat (first | refine blk_drewN ?_ _ | refine blk_drew ?_ | refine blk_alloc ?_ _)); exact BK344.out) Tryd.underlying32 rfl (by kernel_rfl)) rfl ?_
        exact ⟨by first | rfl | (simp [errW_none, errW_some] <;> rfl) | (simp [*, errW_none, errW_some] <;> rfl), belowG⟩
       replace c54 := Bool.eq_false_iff.mpr c54; subst c54
       have H1 : (some (0, a0_0, t370, t365)) = some (r1, r2, r3, r4) := by rw [if_neg (show ¬ (false = true) by decide)] at H; exact H
       clear H; have H := H1; clear H1; simp only [Option.some.injEq, Prod.mk.injEq] at H; obtain ⟨rfl, rfl, rfl, rfl⟩ := H
       try go_wp2
       have n0_ := Aside0.mk (Kd.R_drew HO_5.out); have n1_ := Aside0.mk (Kd.R_drew HO_24.out); have n2_ := Aside0.mk (blk_drew BK343.out); have n3_ := Aside0.mk (blk_drew BK344.out); have n4_ := Aside0.mk (below_drew1 HB.out); clear HO_5; clear HO_24; clear BK343; clear BK344; clear HB; have HO_5 := n0_; have HO_24 := n1_; have BK343 := n2_; have BK344 := n3_; have HB := n4_; clear n0_ n1_ n2_ n3_ n4_; have q65 : (x6_1 : Int) ≤ ((y353.length : Int) : Int) := ode; obtain ⟨i065, hi065, _, hsz65, _⟩ := info_parts info2; have hroom65 : y353.length ≤ co24 := (Kd.R_reads' HO_5.out).2.1; have hC65 : Kd.C (Kd.int .i64) _ Ao24 y353.length y353 := (Kd.R_reads' HO_5.out).2.2; have hcut65 := cut_to (P := Tryd.prog) 28 2 .i64 Tryd.underlying28 hi065 Ao24 y353.length co24 x6_1 (ode) q65 hroom65
       have hr65 := Kd.C_take (m := (x6_1 : Int).toNat) hC65 (by omega)
       have hy65 : y358.length = (x6_1 : Int).toNat := (by rw [Ny358.out, List.length_take]; omega)
       rw [← Ny358.out] at hr65; rw [← hy65] at hcut65; have HR361 := Aside0.mk hr65
       have HC361 := Aside0.mk (show y358.length ≤ co24 from by omega)
       clear hr65 hC65 hroom65 hi065 hsz65; have KY65 := Aside0.mk hy65; clear hy65
       have KL65 := Aside0.mk (show (x6_1 : Int).toNat ≤ y353.length from by omega)
       replace q65 := eq_true q65
       refine start_ (n := 8) (S := fun w' => w'.cell? ⟨gb343, 0, none⟩ = some (.int .i64 a0_0) ∧ w'.cell? ⟨gb343, 1, none⟩ = some (.string a0_1)) (ds := []) #[false,false,false,false,false,false,false,false] (by kernel_rfl) rfl rfl ⟨(blk_cell BK343.out 0).trans rfl, (blk_cell BK343.out 1).trans rfl⟩ (fun hHeld => ?_); refine with_tabW impl_FeedNormer.tab13 impl_FeedNormer.bits13 (fun HT_ HW_ => ?_)
       generalize wr.drew = w64 at HO_5 HO_24 BK343 BK344 HB HR361 hHeld ⊢
       refine pure_ (i := 0) (N := some 37) (v := ?_) (a' := ?_) #[true,false,false,false,false,false,false,false] rfl rfl (any_of HT_.out (by kernel_rfl)) (fun _ _ _ h => h) (Or.inl ⟨by rfl, ?_⟩) ?_ ?_
       rotate_left
       ·intro w'
        go_simp; with_reducible rfl
       rotate_left
       ·simp only [Act.put, List.setIfInBounds_toArray, List.set_cons_zero, List.set_cons_succ, i64_w, i32_w]
        rfl
       refine pure_ (i := 2) (N := some 39) (v := ?_) (a' := ?_) #[true,false,true,false,false,false,false,false] rfl rfl (any_of HT_.out (by kernel_rfl)) (fun _ _ _ h => h) (Or.inl ⟨by rfl, ?_⟩) ?_ ?_
       rotate_left
       ·intro w'
        go_simp; with_reducible rfl
       rotate_left
       ·simp only [Act.put, List.setIfInBounds_toArray, List.set_cons_zero, List.set_cons_succ, i64_w, i32_w]
        rfl
       refine pure_ (i := 3) (N := some 40) (v := ?_) (a' := ?_) #[true,false,true,true,false,false,false,false] rfl rfl (any_of HT_.out (by kernel_rfl)) (fun _ _ _ h => h) (Or.inl ⟨by rfl, ?_⟩) ?_ ?_
       rotate_left
       ·intro w'
        go_simp; with_reducible rfl
       rotate_left
       ·simp only [Act.put, List.setIfInBounds_toArray, List.set_cons_zero, List.set_cons_succ, i64_w, i32_w]
        rfl
       refine pure_ (i := 4) (N := some 41) (v := ?_) (a' := ?_) #[true,false,true,true,true,false,false,false] rfl rfl (any_of HT_.out (by kernel_rfl)) (fun _ _ _ h => h) (Or.inl ⟨by rfl, ?_⟩) ?_ ?_
       rotate_left
       ·intro w'
        go_simp; with_reducible rfl
       rotate_left
       ·simp only [Act.put, List.setIfInBounds_toArray, List.set_cons_zero, List.set_cons_succ, i64_w, i32_w]
        rfl
       refine take_ (i := 1) (N := some 38) (v := ?_) (a' := ?_) #[true,true,true,true,true,false,false,false] rfl rfl (take_ofW HT_.out HW_.out (by kernel_rfl)) (fun _ _ _ h => h) (Or.inl ⟨by rfl, ?_⟩) hHeld ?_ ?_
       rotate_left
       ·rintro w' ⟨s0, s1⟩
        go_simp; with_reducible rfl
       rotate_left
       ·simp only [Act.put, List.setIfInBounds_toArray, List.set_cons_zero, List.set_cons_succ, i64_w, i32_w]
        rfl
       refine one_ (i := 5) (N := some 42) #[true,true,true,true,true,true,false,false] rfl rfl (one_of HT_.out (by kernel_rfl)) (by decide) (fun K hK => ?_)
       refine goes_ Tryd.func94 (by kernel_rfl) rfl #[.int .i64 a0_0, .slice Ao24 y358.length co24] (by rfl) rfl rfl (by (try simp only [List.map_toArray, List.map_cons, List.map_nil]); first | done | rfl | (simp only [List.length_drop, List.length_take]; rfl)) ?_
       with_reducible refine (impl_normal.calls a0_0 _ _ y358 t362 _ ?side1 ?side2 A38.out).mono ?_
       (case side1 => repeat (first | exact (by repeat (first | (with_reducible exact HR361.out) | (with_reducible refine Kd.C_alloc ?_ _) | (with_reducible refine Kd.C_drewN ?_ _) | (with_reducible refine Kd.C_drew ?_) | exact HR361.out)) | (with_reducible refine Kd.C_alloc ?_ _) | (with_reducible refine Kd.C_drewN ?_ _) | (with_reducible refine Kd.C_drew ?_)))
       (case side2 => exact HC361.out)
       rintro e w66 ⟨v363, rfl, ho0, hb⟩; refine ⟨_, rfl, ?_⟩
       have n0_ := Aside0.mk (Kd.R_elder' (by (with_reducible repeat (first | apply Kd.R_alloc | apply Kd.R_drewN | apply Kd.R_drew)); exact HO_5.out) (Kd.R_base ho0) hb)
       have n1_ := Aside0.mk (Kd.R_elder' (by (with_reducible repeat (first | apply Kd.R_alloc | apply Kd.R_drewN | apply Kd.R_drew)); exact HO_24.out) (Kd.R_base ho0) hb)
       have n2_ := Aside0.mk (Kd.R_lower (Kd.R_new' (Kd.R_new' ho0 (Kd.R_lt (by (with_reducible repeat (first | apply Kd.R_alloc | apply Kd.R_drewN | apply Kd.R_drew)); exact HO_5.out))) (Kd.R_lt (by (with_reducible repeat (first | apply Kd.R_alloc | apply Kd.R_drewN | apply Kd.R_drew)); exact HO_24.out))) (below_size (belowG)))
       have n3_ := bkb BK343.out hb; have n4_ := bkb BK344.out hb; have n5_ := cbb HR361.out hb; have n6_ := Aside0.mk (below_step (belowG) hb); clear HO_5; clear HO_24; clear BK343; clear BK344; clear HR361; clear HB; have HO_5 := n0_; have HO_24 := n1_; have HO364 := n2_; have BK343 := n3_; have BK344 := n4_; have HR361 := n5_; have HB := n6_; clear n0_ n1_ n2_ n3_ n4_ n5_ n6_
       (try clear hb)
       (try clear hb2)
       (try clear hk)
       (try clear hi)
       (try clear ho0)
       obtain ⟨Ao67, co67, eo67⟩ := Kd.R_slice HO364.out
       (first | subst eo67 | (injection eo67 with f1_ f2_ f3_; have f4_ := f1_.symm; have f5_ := f3_.symm; clear f1_ f2_ f3_; subst f4_; subst f5_))
       refine hK.out _ _ ⟨(blk_cell BK343.out 0).trans rfl, (blk_cell BK343.out 1).trans rfl⟩ (fun hHeld => ?_)
       clear hK K
       refine norm_ (a' := ?_) ?_ ?_
       rotate_left
       ·show Act.put _ (some 42) _ = _
        simp only [Act.put, List.setIfInBounds_toArray, List.set_cons_zero, List.set_cons_succ, i64_w, i32_w]; rfl
       refine one_ (i := 6) (N := some 43) #[true,true,true,true,true,true,true,false] rfl rfl (one_of HT_.out (by kernel_rfl)) (by decide) (fun K hK => ?_)
       refine goes_ Tryd.func93 (by kernel_rfl) rfl #[.slice Ao67 t362.length co67] (by rfl) rfl rfl (by (try simp only [List.map_toArray, List.map_cons, List.map_nil]); first | done | rfl | (simp only [List.length_drop, List.length_take]; rfl)) ?_
       with_reducible refine (W_impl_write.calls _ _ t362 t365 _ ?side1 ?side2 A39.out).mono ?_
       (case side1 => repeat (first | exact (Kd.R_reads' HO364.out).2.2 | (with_reducible refine Kd.C_alloc ?_ _) | (with_reducible refine Kd.C_drewN ?_ _) | (with_reducible refine Kd.C_drew ?_)))
       (case side2 => exact (Kd.R_reads' HO364.out).2.1)
       rintro e w68 ⟨rfl, hb⟩; refine ⟨_, rfl, ?_⟩; have n0_ := rbb HO_5.out hb; have n1_ := rbb HO_24.out hb; have n2_ := rbb HO364.out hb; have n3_ := bkb BK343.out hb; have n4_ := bkb BK344.out hb; have n5_ := cbb HR361.out hb; have n6_ := Aside0.mk (below_step (belowG) hb); clear HO_5; clear HO_24; clear HO364; clear BK343; clear BK344; clear HR361; clear HB; have HO_5 := n0_; have HO_24 := n1_; have HO364 := n2_; have BK343 := n3_; have BK344 := n4_; have HR361 := n5_; have HB := n6_; clear n0_ n1_ n2_ n3_ n4_ n5_ n6_
       (try clear hb)
       (try clear hb2)
       (try clear hk)
       (try clear hi)
       refine hK.out _ _ ⟨(blk_cell BK343.out 0).trans rfl, (blk_cell BK343.out 1).trans rfl⟩ (fun hHeld => ?_)
       clear hK K
       refine norm_ (a' := ?_) ?_ ?_
       rotate_left
       ·show Act.put _ (some 43) _ = _
        simp only [Act.put, List.setIfInBounds_toArray, List.set_cons_zero, List.set_cons_succ, i64_w, i32_w]; rfl
       refine pure_ (i := 7) (N := some 9) (v := ?_) (a' := ?_) #[true,true,true,true,true,true,true,true] rfl rfl (any_of HT_.out (by kernel_rfl)) (fun _ _ _ h => h) (Or.inl ⟨by rfl, ?_⟩) ?_ ?_
       rotate_left
       ·intro w'
        go_simp; with_reducible rfl
       rotate_left
       ·simp only [Act.put, List.setIfInBounds_toArray, List.set_cons_zero, List.set_cons_succ, i64_w, i32_w]
        rfl
       refine done_ (done_of HT_.out (by kernel_rfl)) ?_
       have q69 : (x6_1 : Int) ≤ ((y353.length : Int) : Int) := ode; obtain ⟨i069, hi069, _, hsz69, _⟩ := info_parts info2; have hroom69 : y353.length ≤ co24 := (Kd.R_reads' HO_5.out).2.1; have hC69 : Kd.C (Kd.int .i64) _ Ao24 y353.length y353 := (Kd.R_reads' HO_5.out).2.2; have q069 : (0 : Int) ≤ (x6_1 : Int) := ode; have hcut69 := cut_from (P := Tryd.prog) 28 2 .i64 Tryd.underlying28 hi069 1 hsz69 Ao24 y353.length co24 x6_1 q069 q69
       have hr69 := Kd.C_drop (m := (x6_1 : Int).toNat) (c := co24) hC69 (by omega) hroom69
       obtain ⟨A69, hA69⟩ : ∃ A1, A1 = (if co24 = (x6_1 : Int).toNat then Ao24 else (Ao24 : Option Addr).map (·.add ((x6_1 : Int).toNat * 1))) := ⟨_, rfl⟩; obtain ⟨c69, hc69⟩ : ∃ c1, c1 = co24 - (x6_1 : Int).toNat := ⟨_, rfl⟩
       have hy69 : y366.length = y353.length - (x6_1 : Int).toNat := (by rw [Ny366.out, List.length_drop] <;> omega)
       rw [show (y353).drop (x6_1 : Int).toNat = y366 from Ny366.out.symm] at hr69
       replace hr69 : Kd.C (Kd.int .i64) _ A69 y366.length y366 := (by rw [hA69]; exact hr69)
       rw [← hy69, ← hA69, ← hc69] at hcut69; have HR369 := Aside0.mk hr69
       have HC369 := Aside0.mk (show y366.length ≤ c69 from by rw [hy69, hc69]; exact Nat.sub_le_sub_right hroom69 _)
       clear hr69 hC69 hroom69 hi069 hsz69 hc69; have KY69 := Aside0.mk hy69; have KA69 := Aside0.mk hA69; clear hy69 hA69
       have KL69 := Aside0.mk (show (x6_1 : Int).toNat ≤ y353.length from by omega)
       replace q69 := eq_true q69
       try go_wp2_with (first | (go_at_call 93; (with_reducible refine (W_impl_write.calls _ _ y366 t370 _ ?side1 ?side2 A42.out).mono ?_); (case side1 => repeat (first | exact (by repeat (first | (with_reducible exact HR369.out) | (with_reducible refine Kd.C_alloc ?_ _) | (with_reducible refine Kd.C_drewN ?_ _) | (with_reducible refine Kd.C_drew ?_) | exact HR369.out)) | (with_reducible refine Kd.C_alloc ?_ _) | (with_reducible refine Kd.C_drewN ?_ _) | (with_reducible refine Kd.C_drew ?_))); (case side2 => exact HC369.out); rintro e w70 ⟨rfl, hb⟩; have n0_ := rbb HO_5.out hb; have n1_ := rbb HO_24.out hb; have n2_ := rbb HO364.out hb; have n3_ := bkb BK343.out hb; have n4_ := bkb BK344.out hb; have n5_ := cbb HR361.out hb; have n6_ := cbb HR369.out hb; have n7_ := Aside0.mk (below_step (belowG) hb); replace HO_5 := n0_; replace HO_24 := n1_; replace HO364 := n2_; replace BK343 := n3_; replace BK344 := n4_; replace HR361 := n5_; replace HR369 := n6_; replace HB := n7_; clear n0_ n1_ n2_ n3_ n4_ n5_ n6_ n7_; clear hb) | (go_at_call 86; (with_reducible refine (impl_long.calls t365 false _ A53.out).mono ?_); rintro e w' ⟨rfl, ⟨nd, rfl⟩⟩; (try (rw [drewN_self w70]; generalize hq_ : World.drewN w70 _ = w70; have n0_ : Aside0 (Kd.R (Kd.int .i64) 2 w70 w.heap.size (fun k_ => some k_ ≠ (.slice Ao24 y353.length co24 : Value).ownBlock ∧ some k_ ≠ (.slice Ao24 y353.length co24 : Value).ownBlock) (.slice Ao67 t362.length co67) t362) := ⟨by rw [← hq_]; exact (by (with_reducible repeat (first | apply Kd.R_alloc | apply Kd.R_drewN | apply Kd.R_drew)); exact Kd.R_mono HO364.out (fun _ hk => ⟨hk.2, hk.1.2⟩))⟩; have n1_ : Aside0 (Kd.R (Kd.int .i64) 2 w70 w.heap.size (fun k_ => some k_ ≠ (.slice Ao67 t362.length co67 : Value).ownBlock) (.slice Ao24 y353.length co24) y353) := ⟨by rw [← hq_]; exact (by (with_reducible repeat (first | apply Kd.R_alloc | apply Kd.R_drewN | apply Kd.R_drew)); exact Kd.R_mono HO_24.out (fun _ hk => hk.2))⟩; have n2_ : Aside0 (Kd.R (Kd.int .i64) 2 w70 w.heap.size (fun k_ => some k_ ≠ (.slice Ao67 t362.length co67 : Value).ownBlock) (.slice Ao24 y353.length co24) y353) := ⟨by rw [← hq_]; exact (by (with_reducible repeat (first | apply Kd.R_alloc | apply Kd.R_drewN | apply Kd.R_drew)); exact Kd.R_mono HO_5.out (fun _ hk => hk.2))⟩; have n3_ : Aside0 (w70.heap[gb343]? = some (.cells #[.int .i64 a0_0, .string a0_1] 27 (0, 0))) := ⟨by rw [← hq_]; exact (by (with_reducible repeat (first | refine blk_drewN ?_ _ | refine blk_drew ?_ | refine blk_alloc ?_ _)); exact BK343.out)⟩; have n4_ : Aside0 (w70.heap[gb344]? = some (.cells #[.int .i64 0, .int .i64 0, .string (⟨#[]⟩ : ByteArray), .string (⟨#[]⟩ : ByteArray)] 32 (0, 0))) := ⟨by rw [← hq_]; exact (by (with_reducible repeat (first | refine blk_drewN ?_ _ | refine blk_drew ?_ | refine blk_alloc ?_ _)); exact BK344.out)⟩; have n5_ : Aside0 (Below w.heap.size w w70) := ⟨by rw [← hq_]; exact (belowG)⟩; have n6_ : Aside0 (Kd.C (Kd.int .i64) w70 Ao24 y358.length y358) := ⟨by rw [← hq_]; exact (by repeat (first | (with_reducible exact HR361.out) | (with_reducible refine Kd.C_alloc ?_ _) | (with_reducible refine Kd.C_drewN ?_ _) | (with_reducible refine Kd.C_drew ?_) | exact HR361.out))⟩; have n7_ : Aside0 (Kd.C (Kd.int .i64) w70 A69 y366.length y366) := ⟨by rw [← hq_]; exact (by repeat (first | (with_reducible exact HR369.out) | (with_reducible refine Kd.C_alloc ?_ _) | (with_reducible refine Kd.C_drewN ?_ _) | (with_reducible refine Kd.C_drew ?_) | exact HR369.out))⟩; clear HO364 HO_24 HO_5 BK343 BK344 HB HR361 HR369 hq_; have HO364 := n0_; have HO_24 := n1_; have HO_5 := n2_; have BK343 := n3_; have BK344 := n4_; have HB := n5_; have HR361 := n6_; have HR369 := n7_; clear n0_ n1_ n2_ n3_ n4_ n5_ n6_ n7_)); have hnb71 := NB343_344.out; have hnc71 := NB344_343.out; have hcz72_0 : w70.cell? ⟨gb343, 0, none⟩ = some (.int .i64 a0_0) := (blk_cell BK343.out 0).trans rfl; have hcz72_1 : w70.cell? ⟨gb343, 1, none⟩ = some (.string a0_1) := (blk_cell BK343.out 1).trans rfl; have hfz72_0 := blk_frozen BK343.out 0; have hfz72_1 := blk_frozen BK343.out 1; have hcz73_0 : w70.cell? ⟨gb344, 0, none⟩ = some (.int .i64 0) := (blk_cell BK344.out 0).trans rfl; have hcz73_1 : w70.cell? ⟨gb344, 1, none⟩ = some (.int .i64 0) := (blk_cell BK344.out 1).trans rfl; have hcz73_2 : w70.cell? ⟨gb344, 2, none⟩ = some (.string (⟨#[]⟩ : ByteArray)) := (blk_cell BK344.out 2).trans rfl; have hcz73_3 : w70.cell? ⟨gb344, 3, none⟩ = some (.string (⟨#[]⟩ : ByteArray)) := (blk_cell BK344.out 3).trans rfl; have hfz73_0 := blk_frozen BK344.out 0; have hfz73_1 := blk_frozen BK344.out 1; have hfz73_2 := blk_frozen BK344.out 2; have hfz73_3 := blk_frozen BK344.out 3))
       refine bodyPost_ret (results_cell_row rfl _ _ gb344 32 #[.int .i64 0, .int .i64 a0_0, .string t370, .string t365] (0, 0) _ rfl (by (with_reducible repeat (first | refine blk_drewN ?_ _ | refine blk_drew ?_ | refine blk_alloc ?_ _)); refine blk_put (cs := #[.int .i64 0, .int .i64 a0_0, .string t370, .string (⟨#[]⟩ : ByteArray)]) ?_ 3 _ rfl; (with_reducible repeat (first | refine blk_drewN ?_ _ | refine blk_drew ?_ | refine blk_alloc ?_ _)); refine blk_put (cs := #[.int .i64 0, .int .i64 a0_0, .string (⟨#[]⟩ : ByteArray), .string (⟨#[]⟩ : ByteArray)]) ?_ 2 _ rfl; (with_reducible repeat (first | refine blk_drewN ?_ _ | refine blk_drew ?_ | refine blk_alloc ?_ _)); refine blk_put (cs := #[.int .i64 0, .int .i64 0, .string (⟨#[]⟩ : ByteArray), .string (⟨#[]⟩ : ByteArray)]) ?_ 1 _ rfl; (with_reducible repeat (first | refine blk_drewN ?_ _ | refine blk_drew ?_ | refine blk_alloc ?_ _)); refine blk_put (cs := #[.int .i64 0, .int .i64 0, .string (⟨#[]⟩ : ByteArray), .string (⟨#[]⟩ : ByteArray)]) ?_ 0 _ rfl; (with_reducible repeat (first | refine blk_drewN ?_ _ | refine blk_drew ?_ | refine blk_alloc ?_ _)); exact BK344.out) Tryd.underlying32 rfl (by kernel_rfl)) rfl ?_
       exact ⟨by first | rfl | (simp [errW_none, errW_some] <;> rfl) | (simp [*, errW_none, errW_some] <;> rfl), belowG⟩
      rw [if_neg c37] at H
      exact absurd H (by simp)
     rw [if_neg c36] at H
     exact absurd H (by simp)
  rw [if_neg c13] at H
  exact absurd H (by simp)
 rw [if_neg c10] at H
 have c10b0 : (t346 == 0) = false := beq_eq_false_iff_ne.mpr c10
 have c10b1 : (t346 != 0) = true := bne_iff_ne.mpr c10
 simp only [Option.some.injEq, Prod.mk.injEq] at H
 obtain ⟨rfl, rfl, rfl, rfl⟩ := H
 go_enter Tryd.func19, Tryd.ntmps19
 go_wp2_with (first | ((with_reducible refine gate_dst (N := 2) rfl ?_); refine box_event ?hg (N := 2) ?hd (cs := #[.int .i64 a0_0, .string a0_1]) (t := 27) ?hr ?_; (case hd => rfl); (case hg => rfl); (case hr => first | (go_simp; done) | (go_simp; rfl)); intro gb343 hg w74 hbox hb; have n0_ := Aside0.mk (below_step (belowA) hb); have n1_ := Aside0.mk (hbox); have n2_ := Aside0.mk ((by rw [hg]; exact (below_size (belowA)) : w.heap.size ≤ gb343)); have n3_ := Aside0.mk ((by rw [hg]; exact (below_size (belowA)) : w.heap.size ≤ gb343)); replace HB := n0_; have BK343 := n1_; have GW343 := n2_; have GE343 := n3_; clear n0_ n1_ n2_ n3_; clear hb hbox hg) | ((with_reducible refine gate_dst (N := 4) rfl ?_); refine box_event ?hg (N := 4) ?hd (cs := #[.int .i64 0, .int .i64 0, .string (⟨#[]⟩ : ByteArray), .string (⟨#[]⟩ : ByteArray)]) (t := 32) ?hr ?_; (case hd => rfl); (case hg => rfl); (case hr => first | (go_simp; done) | (go_simp; rfl)); intro gb344 hg w75 hbox hb; have n0_ := bkb BK343.out hb; have n1_ := Aside0.mk (below_step (belowG) hb); have n2_ := Aside0.mk (hbox); have n3_ := Aside0.mk ((by rw [hg]; exact (below_size (belowG)) : w.heap.size ≤ gb344)); have n4_ := Aside0.mk ((by rw [hg]; exact (below_size (belowG)) : w.heap.size ≤ gb344)); have n5_ := Aside0.mk ((by rw [hg]; exact Nat.ne_of_lt (blk_lt (g := gb343) (o := .cells #[.int .i64 a0_0, .string a0_1] 27 (0, 0)) (by (with_reducible repeat (first | refine blk_drewN ?_ _ | refine blk_drew ?_ | refine blk_alloc ?_ _)); exact BK343.out)) : gb343 ≠ gb344)); have n6_ := Aside0.mk ((by rw [hg]; exact Nat.ne_of_gt (blk_lt (g := gb343) (o := .cells #[.int .i64 a0_0, .string a0_1] 27 (0, 0)) (by (with_reducible repeat (first | refine blk_drewN ?_ _ | refine blk_drew ?_ | refine blk_alloc ?_ _)); exact BK343.out)) : gb344 ≠ gb343)); replace BK343 := n0_; replace HB := n1_; have BK344 := n2_; have GW344 := n3_; have GE344 := n4_; have NB343_344 := n5_; have NB344_343 := n6_; clear n0_ n1_ n2_ n3_ n4_ n5_ n6_; clear hb hbox hg) | (go_at_call 86; (with_reducible refine (impl_long.calls a1 false _ A3.out).mono ?_); rintro e w' ⟨rfl, ⟨nd, rfl⟩⟩; (try (rw [drewN_self w75]; generalize hq_ : World.drewN w75 _ = w75; have n0_ : Aside0 (w75.heap[gb343]? = some (.cells #[.int .i64 a0_0, .string a0_1] 27 (0, 0))) := ⟨by rw [← hq_]; exact (by (with_reducible repeat (first | refine blk_drewN ?_ _ | refine blk_drew ?_ | refine blk_alloc ?_ _)); exact BK343.out)⟩; have n1_ : Aside0 (w75.heap[gb344]? = some (.cells #[.int .i64 0, .int .i64 0, .string (⟨#[]⟩ : ByteArray), .string (⟨#[]⟩ : ByteArray)] 32 (0, 0))) := ⟨by rw [← hq_]; exact (by (with_reducible repeat (first | refine blk_drewN ?_ _ | refine blk_drew ?_ | refine blk_alloc ?_ _)); exact BK344.out)⟩; have n2_ : Aside0 (Below w.heap.size w w75) := ⟨by rw [← hq_]; exact (belowG)⟩; clear BK343 BK344 HB hq_; have BK343 := n0_; have BK344 := n1_; have HB := n2_; clear n0_ n1_ n2_)); have hnb76 := NB343_344.out; have hnc76 := NB344_343.out; have hcz77_0 : w75.cell? ⟨gb343, 0, none⟩ = some (.int .i64 a0_0) := (blk_cell BK343.out 0).trans rfl; have hcz77_1 : w75.cell? ⟨gb343, 1, none⟩ = some (.string a0_1) := (blk_cell BK343.out 1).trans rfl; have hfz77_0 := blk_frozen BK343.out 0; have hfz77_1 := blk_frozen BK343.out 1) | (go_at_call 22; (with_reducible refine (W_impl_NormerFault.calls a0_0 a0_1 t346 _ A9.out gtA).mono ?_); rintro e w78 ⟨rfl, hb⟩; have n0_ := bkb BK343.out hb; have n1_ := bkb BK344.out hb; have n2_ := Aside0.mk (below_step (belowG) hb); replace BK343 := n0_; replace BK344 := n1_; replace HB := n2_; clear n0_ n1_ n2_; clear hb; have hcz79_0 : w78.cell? ⟨gb344, 0, none⟩ = some (.int .i64 0) := (blk_cell BK344.out 0).trans rfl; have hcz79_1 : w78.cell? ⟨gb344, 1, none⟩ = some (.int .i64 0) := (blk_cell BK344.out 1).trans rfl; have hcz79_2 : w78.cell? ⟨gb344, 2, none⟩ = some (.string (⟨#[]⟩ : ByteArray)) := (blk_cell BK344.out 2).trans rfl; have hcz79_3 : w78.cell? ⟨gb344, 3, none⟩ = some (.string (⟨#[]⟩ : ByteArray)) := (blk_cell BK344.out 3).trans rfl; have hfz79_0 := blk_frozen BK344.out 0; have hfz79_1 := blk_frozen BK344.out 1; have hfz79_2 := blk_frozen BK344.out 2; have hfz79_3 := blk_frozen BK344.out 3))
 refine bodyPost_ret (results_cell_row rfl _ _ gb344 32 #[.int .i64 1, .int .i64 0, .string (⟨#[]⟩ : ByteArray), .string (⟨#[]⟩ : ByteArray)] (0, 0) _ rfl (by (with_reducible repeat (first | refine blk_drewN ?_ _ | refine blk_drew ?_ | refine blk_alloc ?_ _)); refine blk_put (cs := #[.int .i64 1, .int .i64 0, .string (⟨#[]⟩ : ByteArray), .string (⟨#[]⟩ : ByteArray)]) ?_ 3 _ rfl; (with_reducible repeat (first | refine blk_drewN ?_ _ | refine blk_drew ?_ | refine blk_alloc ?_ _)); refine blk_put (cs := #[.int .i64 1, .int .i64 0, .string (⟨#[]⟩ : ByteArray), .string (⟨#[]⟩ : ByteArray)]) ?_ 2 _ rfl; (with_reducible repeat (first | refine blk_drewN ?_ _ | refine blk_drew ?_ | refine blk_alloc ?_ _)); refine blk_put (cs := #[.int .i64 1, .int .i64 0, .string (⟨#[]⟩ : ByteArray), .string (⟨#[]⟩ : ByteArray)]) ?_ 1 _ rfl; (with_reducible repeat (first | refine blk_drewN ?_ _ | refine blk_drew ?_ | refine blk_alloc ?_ _)); refine blk_put (cs := #[.int .i64 0, .int .i64 0, .string (⟨#[]⟩ : ByteArray), .string (⟨#[]⟩ : ByteArray)]) ?_ 0 _ rfl; (with_reducible repeat (first | refine blk_drewN ?_ _ | refine blk_drew ?_ | refine blk_alloc ?_ _)); exact BK344.out) Tryd.underlying32 rfl (by kernel_rfl)) rfl ?_
 exact ⟨by first | rfl | (simp [errW_none, errW_some] <;> rfl) | (simp [*, errW_none, errW_some] <;> rfl), belowG⟩

def W_impl_FeedNormer.f (f : Int) (h t : ByteArray) : Option (Int × Int × ByteArray × ByteArray) := if h.size ≤ 100000 ∧ t.size ≤ 100000 then some (YtiabgmddnddeiaaDoorNmr.FD f h t) else none
theorem impl_FeedNormer.run (f : Int) (hf : 1 ≤ f ∧ f ≤ 4) (h : ByteArray) (l : List Int) (hl : l.length ≤ 1000000) (hp : ∀ p ∈ l, 0 ≤ p ∧ p ≤ 1114111) (d : Nat) : ∀ (k i a : Nat), a ≤ l.length → i ≤ l.length → l.length - i = d → d < k →
    impl_FeedNormer.l0 k l (a : Int) l (l.length : Int) (i : Int) f h = some (if ((YtiabgmddnddeiaaDoorNmr.S (l.drop (YtiabgmddnddeiaaDoorNmr.cutF f (l.drop i) i a))).size : Int) > 1000 then (8, 0, ⟨#[]⟩, ⟨#[]⟩) else if ((YtiabgmddnddeiaaDoorNmr.S (YtiabgmddnddeiaaDoorNrm.nf f (l.take (YtiabgmddnddeiaaDoorNmr.cutF f (l.drop i) i a)))).size : Int) > 65536 then (2, 0, ⟨#[]⟩, ⟨#[]⟩) else (0, f, YtiabgmddnddeiaaDoorNmr.S (l.drop (YtiabgmddnddeiaaDoorNmr.cutF f (l.drop i) i a)), YtiabgmddnddeiaaDoorNmr.S (YtiabgmddnddeiaaDoorNrm.nf f (l.take (YtiabgmddnddeiaaDoorNmr.cutF f (l.drop i) i a))))) := by
  induction d with
  | zero =>
    intro k i a h0 h1 h2 h3
    obtain ⟨k, rfl⟩ : ∃ m, k = m + 1 := ⟨k - 1, by omega⟩
    have hn := YtiabgmddnddeiaaDoorNst.nf_len f (l.take a)
    rw [List.length_take] at hn
    simp only [impl_FeedNormer.l0]
    rw [if_neg (by omega), if_pos (by omega), if_pos (by omega), List.drop_eq_nil_of_le (by omega : l.length ≤ i), Int.toNat_natCast]
    unfold impl_normal.f
    rw [if_pos ⟨hf.1, hf.2, by rw [List.length_take]; omega, fun p hq => hp p (List.mem_of_mem_take hq)⟩]
    simp only [Option.bind_some]
    unfold W_impl_write.f
    rw [if_pos (by omega), if_pos (by rw [List.length_drop]; omega)]
    simp only [Option.bind_some]
    unfold impl_long.f
    simp only [Option.bind_some, YtiabgmddnddeiaaDoorNmr.cutF]
    unfold YtiabgmddnddeiaaDoorNmr.S
    by_cases c1 : ((strOfNums (YtiabgmddnddeiaaDoorPts.encs (l.drop a))).size : Int) > 1000
    · rw [if_pos c1]
      exact congrArg some (if_pos c1).symm
    · rw [if_neg c1]
      refine Eq.trans ?_ (congrArg some (if_neg c1).symm)
      by_cases c2 : ((strOfNums (YtiabgmddnddeiaaDoorPts.encs (YtiabgmddnddeiaaDoorNrm.nf f (l.take a)))).size : Int) > 65536
      · rw [if_pos (decide_eq_true c2)]
        exact congrArg some (if_pos c2).symm
      · rw [if_neg (by rw [decide_eq_false c2]; decide)]
        exact congrArg some (if_neg c2).symm
  | succ d ih =>
    intro k i a h0 h1 h2 h3
    obtain ⟨k, rfl⟩ : ∃ m, k = m + 1 := ⟨k - 1, by omega⟩
    have hlt : i < l.length := by omega
    have hr : rd l (i : Int) = l[i] := by simp [rd, List.getD, hlt]
    have hw : wrap64 ((i : Int) + 1) = ((i + 1 : Nat) : Int) := by unfold wrap64; omega
    simp only [impl_FeedNormer.l0]
    rw [if_pos (by omega), if_pos (by omega), if_pos (by omega), hr]
    unfold impl_safe.f
    rw [if_pos (hp _ (List.getElem_mem hlt))]
    simp only [Option.bind_some]
    rw [List.drop_eq_getElem_cons hlt, YtiabgmddnddeiaaDoorNmr.cutF, hw]
    by_cases g : YtiabgmddnddeiaaDoorNmr.sf f l[i] = true
    · rw [if_pos g, if_pos g, ih k (i + 1) i (by omega) (by omega) (by omega) (by omega)]
    · rw [if_neg g, if_neg g, ih k (i + 1) a (by omega) (by omega) (by omega) (by omega)]
theorem W_impl_FeedNormer.to {f : Int} {h t : ByteArray} {r : Int × Int × ByteArray × ByteArray} (e : W_impl_FeedNormer.f f h t = some r) : ∃ k, impl_FeedNormer.f k f h t = some r := by
  unfold W_impl_FeedNormer.f at e
  split at e
  · rename_i hs
    have l1 := YtiabgmddnddeiaaDoorNst.P_len h
    have l2 := YtiabgmddnddeiaaDoorNst.P_len t
    refine ⟨h.size + t.size + 4, ?_⟩
    rw [← e]
    unfold impl_FeedNormer.f impl_long.f YtiabgmddnddeiaaDoorNmr.FD
    simp only [Option.bind_some]
    by_cases c : (t.size : Int) > 65536
    · rw [if_pos (decide_eq_true c), if_pos c]
    · rw [if_neg (by rw [decide_eq_false c]; decide), if_neg c]
      unfold W_impl_NormerFault.f
      rw [if_pos (by omega)]
      simp only [Option.bind_some]
      by_cases g : YtiabgmddnddeiaaDoorNmr.NF f h = 0
      · rw [if_pos g, if_pos g]
        have hf : 1 ≤ f ∧ f ≤ 4 := by
          unfold YtiabgmddnddeiaaDoorNmr.NF at g
          split at g
          · rename_i z; exact of_decide_eq_true z.1
          · omega
        unfold W_impl_points.f
        rw [if_pos (by omega), if_pos (by omega)]
        simp only [Option.bind_some]
        rw [show YtiabgmddnddeiaaDoorPts.pts (bytesOf h) = YtiabgmddnddeiaaDoorNst.P h from rfl, show YtiabgmddnddeiaaDoorPts.pts (bytesOf t) = YtiabgmddnddeiaaDoorNst.P t from rfl, if_pos (by omega)]
        have := impl_FeedNormer.run f hf h (YtiabgmddnddeiaaDoorNst.P h ++ YtiabgmddnddeiaaDoorNst.P t) (by rw [List.length_append]; omega) (fun p hp => by rcases List.mem_append.1 hp with z | z; exact YtiabgmddnddeiaaDoorNst.range (YtiabgmddnddeiaaDoorNst.P_isP h) p z; exact YtiabgmddnddeiaaDoorNst.range (YtiabgmddnddeiaaDoorNst.P_isP t) p z) _ (h.size + t.size + 4) 0 0 (by omega) (by omega) rfl (by rw [List.length_append]; omega)
        exact this
      · rw [if_neg g, if_neg g]
  · cases e
theorem W_impl_FeedNormer.calls (a0_0 : Int) (a0_1 : ByteArray) (a1 : ByteArray) (r1 : Int) (r2 : Int) (r3 : ByteArray) (r4 : ByteArray) (w : World) (h : W_impl_FeedNormer.f a0_0 a0_1 a1 = some (r1, r2, r3, r4)) (hG : GT w) :
    Calls Tryd.prog 19 #[.agg #[.int .i64 a0_0, .string a0_1], .string a1] w fun e w' => e = .returned (.agg #[.int .i64 r1, .int .i64 r2, .string r3, .string r4]) ∧ Below w.heap.size w w' := by
  obtain ⟨k, hk⟩ := W_impl_FeedNormer.to h
  exact impl_FeedNormer.calls k a0_0 a0_1 a1 r1 r2 r3 r4 w hk hG

/-! ### spec_TextOf: function 20 -/
def spec_TextOf.f (l0 : List Int) : Option (ByteArray) := if (l0.length : Int) > 1000 then (some (⟨#[]⟩ : ByteArray)) else ((W_spec_l01Text.f l0).bind fun t372 => ((spec_l01Small.f t372).bind fun t373 => (some t373)))
set_option maxHeartbeats 8000000 in
set_option maxRecDepth 100000 in
theorem spec_TextOf.calls (A0 : Option Addr) (c0 : Nat) (l0 : List Int) (r : ByteArray) (w : World) (hr0 : Kd.C (Kd.int .i64) w A0 l0.length l0) (hc0 : l0.length ≤ c0) (h : spec_TextOf.f l0 = some r) :
    Calls Tryd.prog 20 #[.slice A0 l0.length c0] w fun e w' => e = .returned (.string r) ∧ Below w.heap.size w w' := by
  have HR0 := Aside0.mk hr0
  have HC0 := Aside0.mk hc0
  clear hr0 hc0
  have HB := Aside0.mk (Below.refl w.heap.size w)
  have H : (if (l0.length : Int) > 1000 then (some (⟨#[]⟩ : ByteArray)) else ((W_spec_l01Text.f l0).bind fun t372 => ((spec_l01Small.f t372).bind fun t373 => (some t373)))) = some r := h
  clear h
  by_cases c2 : (l0.length : Int) > 1000
  · rw [if_pos c2] at H
    have c2b0 : decide (1000 < (l0.length : Int)) = true := decide_eq_true c2
    have c2b1 : decide (1000 < l0.length) = true := decide_eq_true (by omega)
    clear c2
    obtain rfl := Option.some.inj H
    go_enter Tryd.func20, Tryd.ntmps20
    go_wp2
    go_ret
    exact ⟨by first | rfl | (simp [errW_none, errW_some] <;> rfl) | (simp [*, errW_none, errW_some] <;> rfl), by repeat (first | (with_reducible first | exact HB.out | apply below_alloc | apply pw_below_drewN | apply below_drew1) | exact HB.out)⟩
  · rw [if_neg c2] at H
    have c2b0 : decide (1000 < (l0.length : Int)) = false := decide_eq_false c2
    have c2b1 : decide (1000 < l0.length) = false := decide_eq_false (by omega)
    clear c2
    replace H := Option.bind_eq_some_iff.mp H
    obtain ⟨t372, A30, H⟩ := H
    replace H : ((spec_l01Small.f t372).bind fun t373 => (some t373)) = some r := H
    have A3 := Aside0.mk A30
    clear A30
    replace H := Option.bind_eq_some_iff.mp H
    obtain ⟨t373, A40, H⟩ := H
    replace H : (some t373) = some r := H
    have A4 := Aside0.mk A40
    clear A40
    obtain rfl := Option.some.inj H
    go_enter Tryd.func20, Tryd.ntmps20
    go_wp2_with (first | (go_at_call 95; (with_reducible refine (W_spec_l01Text.calls _ _ l0 t372 _ ?side1 ?side2 A3.out).mono ?_); (case side1 => repeat (first | exact HR0.out | (with_reducible refine Kd.C_alloc ?_ _) | (with_reducible refine Kd.C_drewN ?_ _) | (with_reducible refine Kd.C_drew ?_))); (case side2 => exact HC0.out); rintro e w5 ⟨rfl, hb⟩; replace HB := Aside0.mk (below_step (by repeat (first | (with_reducible first | exact HB.out | apply below_alloc | apply pw_below_drewN | apply below_drew1) | exact HB.out)) hb);  clear hb) | (go_at_call 84; (with_reducible refine (spec_l01Small.calls t372 t373 _ A4.out).mono ?_); rintro e w' ⟨rfl, ⟨nd, rfl⟩⟩))
    go_ret
    exact ⟨by first | rfl | (simp [errW_none, errW_some] <;> rfl) | (simp [*, errW_none, errW_some] <;> rfl), by repeat (first | (with_reducible first | exact HB.out | apply below_alloc | apply pw_below_drewN | apply below_drew1) | exact HB.out)⟩

end Go.Proofs.YtiabgmddnddeiaaDoor.QFnNormer
