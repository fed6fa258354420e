/- The law FnNormer: at every input the call answers true (this text: contracts on its way, by a program of this session's; no condition of ours). -/
import Derived.Test.YtiabgmddnddeiaaDoorQFnNormerx0
import Derived.Test.YtiabgmddnddeiaaDoorQFnNormerx1
import Derived.Test.YtiabgmddnddeiaaDoorQFnNormerx2
import Derived.Test.YtiabgmddnddeiaaDoorQFnNormerx3
import Derived.Test.YtiabgmddnddeiaaDoorQFnNormerx8
import Derived.Test.YtiabgmddnddeiaaDoorQFnNormerx16
namespace Go.Proofs.YtiabgmddnddeiaaDoor.QFnNormer
open Go.RowKit Go.Proofs.YtiabgmddnddeiaaDoorW.PrintWords Go.Proofs.YtiabgmddnddeiaaDoorW.PrintLast Go.Proofs.YtiabgmddnddeiaaDoorW.PrintMore
attribute [local go_sem] max2_int min2_int max_two min_two max_three min_three max_four min_four   -- for this text's walks alone
set_option linter.unusedVariables false
set_option linter.unusedSimpArgs false

/-! ### spec_FeedNormer: function 21 -/
def spec_FeedNormer.l0 : Nat → List Int → Int → Int → Int → ByteArray → Option (Int × Int × ByteArray × ByteArray)
 | 0, _, _, _, _, _ => none
 | k + 1, x5, x6, x7, x394000, x394001 => if x7 < (x5.length : Int) then (if 0 ≤ x7 then ((spec_l05Safe.f x394000 (rd x5 x7)).bind fun t406 => (if t406 = true then (spec_FeedNormer.l0 k x5 x7 (wrap64 (x7 + 1)) x394000 x394001) else (spec_FeedNormer.l0 k x5 x6 (wrap64 (x7 + 1)) x394000 x394001))) else (none)) else (if 0 ≤ x6 then (if x6 ≤ (x5.length : Int) then ((W_spec_l05Norm.f x394000 (x5.take (x6 : Int).toNat)).bind fun t411 => ((W_spec_l01Text.f t411).bind fun t414 => ((W_spec_l01Text.f (x5.drop (x6 : Int).toNat)).bind fun t419 => (if (t414.size : Int) > 65536 then (some (2, 0, (⟨#[]⟩ : ByteArray), (⟨#[]⟩ : ByteArray))) else (if (t419.size : Int) > 1000 then (some (8, 0, (⟨#[]⟩ : ByteArray), (⟨#[]⟩ : ByteArray))) else (some (0, x394000, t419, t414))))))) else (none)) else (none))
def spec_FeedNormer.f (k : Nat) (a0_0 : Int) (a0_1 : ByteArray) (a1 : ByteArray) : Option (Int × Int × ByteArray × ByteArray) := if (a1.size : Int) > 65536 then (some (2, 0, (⟨#[]⟩ : ByteArray), (⟨#[]⟩ : ByteArray))) else ((W_spec_NormerFault.f a0_0 a0_1).bind fun t395 => (if t395 = 0 then ((W_spec_l01Points.f a0_1).bind fun t396 => ((W_spec_l01Points.f a1).bind fun t399 => (if t396.length + t399.length < 17592186044416 then (spec_FeedNormer.l0 k (t396 ++ t399) 0 0 a0_0 a0_1) else (none)))) else (some (1, 0, (⟨#[]⟩ : ByteArray), (⟨#[]⟩ : ByteArray)))))
theorem spec_FeedNormer.mono_l : ∀ k, (∀ y0 y1 y2 y3 y4, LeO (spec_FeedNormer.l0 k y0 y1 y2 y3 y4) (spec_FeedNormer.l0 (k + 1) y0 y1 y2 y3 y4))
 | 0 => fun _ _ _ _ _ r h => by simp [spec_FeedNormer.l0] at h
 | k + 1 => by
  have ih0 := spec_FeedNormer.mono_l k; intro y0 y1 y2 y3 y4
  unfold spec_FeedNormer.l0
  repeat' first
  | (with_reducible exact ih0 _ _ _ _ _)
  | (with_reducible exact LeO.refl _)
  | (with_reducible exact LeO.none _)
  | (with_reducible refine LeO.ite ?_ ?_)
  | (with_reducible refine LeO.bind ?_ (fun _ => ?_))
  | exact ih0 _ _ _ _ _
  | exact LeO.none _
  | refine LeO.ite ?_ ?_
  | refine LeO.bind ?_ (fun _ => ?_)
theorem spec_FeedNormer.mono : ∀ a0 a1 a2 k, LeO (spec_FeedNormer.f k a0 a1 a2) (spec_FeedNormer.f (k + 1) a0 a1 a2) := by
 intro a0 a1 a2 k
 have ih0 := spec_FeedNormer.mono_l k
 unfold spec_FeedNormer.f
 repeat' first
   | (with_reducible exact ih0 _ _ _ _ _)
   | (with_reducible exact LeO.refl _)
   | (with_reducible exact LeO.none _)
   | (with_reducible refine LeO.ite ?_ ?_)
   | (with_reducible refine LeO.bind ?_ (fun _ => ?_))
   | exact ih0 _ _ _ _ _
   | exact LeO.none _
   | refine LeO.ite ?_ ?_
   | refine LeO.bind ?_ (fun _ => ?_)
def spec_FeedNormer.T12 : Bool × List (List Nat × List Nat) := (true, [([], []), ([0], [0]), ([], []), ([], []), ([2, 3], [2, 3]), ([1, 4], [1, 4]), ([5, 5], [5]), ([6, 6, 0, 1, 2, 3, 4, 5, 6], [6])])
def spec_FeedNormer.B12 : List Nat := [0, 1, 0, 0, 12, 31, 63, 127]
theorem spec_FeedNormer.tab12 : rtab .any (opsOf Tryd.f21 12) = spec_FeedNormer.T12 := by kernel_rfl
theorem spec_FeedNormer.bits12 : waitsOk spec_FeedNormer.T12.2 spec_FeedNormer.B12 = true := by kernel_rfl
set_option maxHeartbeats 8000000 in
set_option maxRecDepth 100000 in
theorem spec_FeedNormer.calls (k : Nat) (a0_0 : Int) (a0_1 : ByteArray) (a1 : ByteArray) (r1 : Int) (r2 : Int) (r3 : ByteArray) (r4 : ByteArray) (w : World) (h : spec_FeedNormer.f k a0_0 a0_1 a1 = some (r1, r2, r3, r4)) :
  Calls Tryd.prog 21 #[.agg #[.int .i64 a0_0, .string a0_1], .string a1] w fun e w' => e = .returned (.agg #[.int .i64 r1, .int .i64 r2, .string r3, .string r4]) ∧ Below w.heap.size w w' := by
 have hu27 := Tryd.underlying27
 have hu32 := Tryd.underlying32
 have HB := Aside0.mk (Below.refl w.heap.size w)
 have H : (if (a1.size : Int) > 65536 then (some (2, 0, (⟨#[]⟩ : ByteArray), (⟨#[]⟩ : ByteArray))) else ((W_spec_NormerFault.f a0_0 a0_1).bind fun t395 => (if t395 = 0 then ((W_spec_l01Points.f a0_1).bind fun t396 => ((W_spec_l01Points.f a1).bind fun t399 => (if t396.length + t399.length < 17592186044416 then (spec_FeedNormer.l0 k (t396 ++ t399) 0 0 a0_0 a0_1) else (none)))) else (some (1, 0, (⟨#[]⟩ : ByteArray), (⟨#[]⟩ : ByteArray)))))) = some (r1, r2, r3, r4) := h
 clear h
 by_cases c3 : (a1.size : Int) > 65536
 ·rw [if_pos c3] at H
  have c3b0 : decide (65536 < (a1.size : Int)) = true := decide_eq_true c3
  have c3b1 : decide (65536 < a1.size) = true := decide_eq_true (by omega)
  clear c3; simp only [Option.some.injEq, Prod.mk.injEq] at H; obtain ⟨rfl, rfl, rfl, rfl⟩ := H
  go_enter Tryd.func21, Tryd.ntmps21
  go_wp2_with (first | ((with_reducible refine gate_dst (N := 2) rfl ?_); refine box_event ?hg (N := 2) ?hd (cs := #[.int .i64 a0_0, .string a0_1]) (t := 27) ?hr ?_; (case hd => rfl); (case hg => rfl); (case hr => first | (go_simp; done) | (go_simp; rfl)); intro gb393 hg w4 hbox hb; have n0_ := Aside0.mk (below_step (belowA) hb); have n1_ := Aside0.mk (hbox); have n2_ := Aside0.mk ((by rw [hg]; exact (below_size (belowA)) : w.heap.size ≤ gb393)); have n3_ := Aside0.mk ((by rw [hg]; exact (below_size (belowA)) : w.heap.size ≤ gb393)); replace HB := n0_; have BK393 := n1_; have GW393 := n2_; have GE393 := n3_; clear n0_ n1_ n2_ n3_; clear hb hbox hg) | ((with_reducible refine gate_dst (N := 4) rfl ?_); refine box_event ?hg (N := 4) ?hd (cs := #[.int .i64 0, .int .i64 0, .string (⟨#[]⟩ : ByteArray), .string (⟨#[]⟩ : ByteArray)]) (t := 32) ?hr ?_; (case hd => rfl); (case hg => rfl); (case hr => first | (go_simp; done) | (go_simp; rfl)); intro gb394 hg w5 hbox hb; have n0_ := bkb BK393.out hb; have n1_ := Aside0.mk (below_step (belowG) hb); have n2_ := Aside0.mk (hbox); have n3_ := Aside0.mk ((by rw [hg]; exact (below_size (belowG)) : w.heap.size ≤ gb394)); have n4_ := Aside0.mk ((by rw [hg]; exact (below_size (belowG)) : w.heap.size ≤ gb394)); have n5_ := Aside0.mk ((by rw [hg]; exact Nat.ne_of_lt (blk_lt (g := gb393) (o := .cells #[.int .i64 a0_0, .string a0_1] 27 (0, 0)) (by (with_reducible repeat (first | refine blk_drewN ?_ _ | refine blk_drew ?_ | refine blk_alloc ?_ _)); exact BK393.out)) : gb393 ≠ gb394)); have n6_ := Aside0.mk ((by rw [hg]; exact Nat.ne_of_gt (blk_lt (g := gb393) (o := .cells #[.int .i64 a0_0, .string a0_1] 27 (0, 0)) (by (with_reducible repeat (first | refine blk_drewN ?_ _ | refine blk_drew ?_ | refine blk_alloc ?_ _)); exact BK393.out)) : gb394 ≠ gb393)); replace BK393 := n0_; replace HB := n1_; have BK394 := n2_; have GW394 := n3_; have GE394 := n4_; have NB393_394 := n5_; have NB394_393 := n6_; clear n0_ n1_ n2_ n3_ n4_ n5_ n6_; clear hb hbox hg; have hnb6 := NB394_393.out; have hnc6 := NB393_394.out; have hcz7_0 : w5.cell? ⟨gb394, 0, none⟩ = some (.int .i64 0) := (blk_cell BK394.out 0).trans rfl; have hcz7_1 : w5.cell? ⟨gb394, 1, none⟩ = some (.int .i64 0) := (blk_cell BK394.out 1).trans rfl; have hcz7_2 : w5.cell? ⟨gb394, 2, none⟩ = some (.string (⟨#[]⟩ : ByteArray)) := (blk_cell BK394.out 2).trans rfl; have hcz7_3 : w5.cell? ⟨gb394, 3, none⟩ = some (.string (⟨#[]⟩ : ByteArray)) := (blk_cell BK394.out 3).trans rfl; have hfz7_0 := blk_frozen BK394.out 0; have hfz7_1 := blk_frozen BK394.out 1; have hfz7_2 := blk_frozen BK394.out 2; have hfz7_3 := blk_frozen BK394.out 3))
  refine bodyPost_ret (results_cell_row rfl _ _ gb394 32 #[.int .i64 2, .int .i64 0, .string (⟨#[]⟩ : ByteArray), .string (⟨#[]⟩ : ByteArray)] (0, 0) _ rfl (by (with_reducible repeat (first | refine blk_drewN ?_ _ | refine blk_drew ?_ | refine blk_alloc ?_ _)); refine blk_put (cs := #[.int .i64 2, .int .i64 0, .string (⟨#[]⟩ : ByteArray), .string (⟨#[]⟩ : ByteArray)]) ?_ 3 _ rfl; (with_reducible repeat (first | refine blk_drewN ?_ _ | refine blk_drew ?_ | refine blk_alloc ?_ _)); refine blk_put (cs := #[.int .i64 2, .int .i64 0, .string (⟨#[]⟩ : ByteArray), .string (⟨#[]⟩ : ByteArray)]) ?_ 2 _ rfl; (with_reducible repeat (first | refine blk_drewN ?_ _ | refine blk_drew ?_ | refine blk_alloc ?_ _)); refine blk_put (cs := #[.int .i64 2, .int .i64 0, .string (⟨#[]⟩ : ByteArray), .string (⟨#[]⟩ : ByteArray)]) ?_ 1 _ rfl; (with_reducible repeat (first | refine blk_drewN ?_ _ | refine blk_drew ?_ | refine blk_alloc ?_ _)); refine blk_put (cs := #[.int .i64 0, .int .i64 0, .string (⟨#[]⟩ : ByteArray), .string (⟨#[]⟩ : ByteArray)]) ?_ 0 _ rfl; (with_reducible repeat (first | refine blk_drewN ?_ _ | refine blk_drew ?_ | refine blk_alloc ?_ _)); exact BK394.out) Tryd.underlying32 rfl (by kernel_rfl)) rfl ?_
  exact ⟨by first | rfl | (simp [errW_none, errW_some] <;> rfl) | (simp [*, errW_none, errW_some] <;> rfl), belowG⟩
 rw [if_neg c3] at H
 have c3b0 : decide (65536 < (a1.size : Int)) = false := decide_eq_false c3
 have c3b1 : decide (65536 < a1.size) = false := decide_eq_false (by omega)
 clear c3
 replace H := Option.bind_eq_some_iff.mp H
 obtain ⟨t395, A80, H⟩ := H
 try dsimp only at H
 have A8 := Aside0.mk A80
 clear A80
 by_cases c9 : t395 = 0
 ·rw [if_pos c9] at H
  have c9b0 : (t395 == 0) = true := beq_iff_eq.mpr c9; have c9b1 : (t395 != 0) = false := bne_eq_false_iff_eq.mpr c9; clear c9; replace H := Option.bind_eq_some_iff.mp H; obtain ⟨t396, A100, H⟩ := H
  try dsimp only at H
  have A10 := Aside0.mk A100; clear A100; replace H := Option.bind_eq_some_iff.mp H; obtain ⟨t399, A110, H⟩ := H
  try dsimp only at H
  have A11 := Aside0.mk A110; clear A110
  by_cases c12 : t396.length + t399.length < 17592186044416
  ·rw [if_pos c12] at H
   have LMc12 := Aside0.mk c12; clear c12; obtain ⟨y402, hy402⟩ : ∃ y_ : List Int, y_ = (t396 ++ t399) := ⟨_, rfl⟩
   replace H : (spec_FeedNormer.l0 k y402 0 0 a0_0 a0_1) = some (r1, r2, r3, r4) := by first | (rw [hy402]; with_reducible exact H) | (have H2_ := (Option.bind_some _ _).symm.trans H; rw [hy402]; with_reducible exact H2_) | (have H2_ := (Option.bind_some _ _).symm.trans H; with_reducible exact H2_) | with_reducible exact H | (rw [hy402]; exact H) | exact H
   have Ny402 := Aside0.mk hy402; clear hy402; have H' := Aside0.mk H; clear H
   go_enter Tryd.func21, Tryd.ntmps21
   go_wp2_with (first | ((with_reducible refine gate_dst (N := 2) rfl ?_); refine box_event ?hg (N := 2) ?hd (cs := #[.int .i64 a0_0, .string a0_1]) (t := 27) ?hr ?_; (case hd => rfl); (case hg => rfl); (case hr => first | (go_simp; done) | (go_simp; rfl)); intro gb393 hg w13 hbox hb; have n0_ := Aside0.mk (below_step (belowA) hb); have n1_ := Aside0.mk (hbox); have n2_ := Aside0.mk ((by rw [hg]; exact (below_size (belowA)) : w.heap.size ≤ gb393)); have n3_ := Aside0.mk ((by rw [hg]; exact (below_size (belowA)) : w.heap.size ≤ gb393)); replace HB := n0_; have BK393 := n1_; have GW393 := n2_; have GE393 := n3_; clear n0_ n1_ n2_ n3_; clear hb hbox hg) | ((with_reducible refine gate_dst (N := 4) rfl ?_); refine box_event ?hg (N := 4) ?hd (cs := #[.int .i64 0, .int .i64 0, .string (⟨#[]⟩ : ByteArray), .string (⟨#[]⟩ : ByteArray)]) (t := 32) ?hr ?_; (case hd => rfl); (case hg => rfl); (case hr => first | (go_simp; done) | (go_simp; rfl)); intro gb394 hg w14 hbox hb; have n0_ := bkb BK393.out hb; have n1_ := Aside0.mk (below_step (belowG) hb); have n2_ := Aside0.mk (hbox); have n3_ := Aside0.mk ((by rw [hg]; exact (below_size (belowG)) : w.heap.size ≤ gb394)); have n4_ := Aside0.mk ((by rw [hg]; exact (below_size (belowG)) : w.heap.size ≤ gb394)); have n5_ := Aside0.mk ((by rw [hg]; exact Nat.ne_of_lt (blk_lt (g := gb393) (o := .cells #[.int .i64 a0_0, .string a0_1] 27 (0, 0)) (by (with_reducible repeat (first | refine blk_drewN ?_ _ | refine blk_drew ?_ | refine blk_alloc ?_ _)); exact BK393.out)) : gb393 ≠ gb394)); have n6_ := Aside0.mk ((by rw [hg]; exact Nat.ne_of_gt (blk_lt (g := gb393) (o := .cells #[.int .i64 a0_0, .string a0_1] 27 (0, 0)) (by (with_reducible repeat (first | refine blk_drewN ?_ _ | refine blk_drew ?_ | refine blk_alloc ?_ _)); exact BK393.out)) : gb394 ≠ gb393)); replace BK393 := n0_; replace HB := n1_; have BK394 := n2_; have GW394 := n3_; have GE394 := n4_; have NB393_394 := n5_; have NB394_393 := n6_; clear n0_ n1_ n2_ n3_ n4_ n5_ n6_; clear hb hbox hg; have hnb15 := NB393_394.out; have hnc15 := NB394_393.out; have hcz16_0 : w14.cell? ⟨gb393, 0, none⟩ = some (.int .i64 a0_0) := (blk_cell BK393.out 0).trans rfl; have hcz16_1 : w14.cell? ⟨gb393, 1, none⟩ = some (.string a0_1) := (blk_cell BK393.out 1).trans rfl; have hfz16_0 := blk_frozen BK393.out 0; have hfz16_1 := blk_frozen BK393.out 1) | (go_at_call 96; (with_reducible refine (W_spec_NormerFault.calls a0_0 a0_1 t395 _ A8.out).mono ?_); rintro e w17 ⟨rfl, hb⟩; have n0_ := bkb BK393.out hb; have n1_ := bkb BK394.out hb; have n2_ := Aside0.mk (below_step (belowG) hb); replace BK393 := n0_; replace BK394 := n1_; replace HB := n2_; clear n0_ n1_ n2_; clear hb; have hcz18_0 : w17.cell? ⟨gb393, 0, none⟩ = some (.int .i64 a0_0) := (blk_cell BK393.out 0).trans rfl; have hcz18_1 : w17.cell? ⟨gb393, 1, none⟩ = some (.string a0_1) := (blk_cell BK393.out 1).trans rfl; have hfz18_0 := blk_frozen BK393.out 0; have hfz18_1 := blk_frozen BK393.out 1) | (go_at_call 90; (with_reducible refine (W_spec_l01Points.calls a0_1 t396 _ A10.out).mono ?_); rintro e w19 ⟨v397, rfl, ho0, hb⟩; have n0_ := Aside0.mk (Kd.R_lower ho0 (below_size (belowG))); have n1_ := bkb BK393.out hb; have n2_ := bkb BK394.out hb; have n3_ := Aside0.mk (below_step (belowG) hb); have HO398 := n0_; replace BK393 := n1_; replace BK394 := n2_; replace HB := n3_; clear n0_ n1_ n2_ n3_; clear hb; (try clear ho0)) | (go_at_call 90; (with_reducible refine (W_spec_l01Points.calls a1 t399 _ A11.out).mono ?_); rintro e w20 ⟨v400, rfl, ho0, hb⟩; have n0_ := Aside0.mk (Kd.R_elder' (by (with_reducible repeat (first | apply Kd.R_alloc | apply Kd.R_drewN | apply Kd.R_drew)); exact HO398.out) (Kd.R_base ho0) hb); have n1_ := Aside0.mk (Kd.R_lower (Kd.R_new' ho0 (Kd.R_lt (by (with_reducible repeat (first | apply Kd.R_alloc | apply Kd.R_drewN | apply Kd.R_drew)); exact HO398.out))) (below_size (belowG))); have n2_ := bkb BK393.out hb; have n3_ := bkb BK394.out hb; have n4_ := Aside0.mk (below_step (belowG) hb); replace HO398 := n0_; have HO401 := n1_; replace BK393 := n2_; replace BK394 := n3_; replace HB := n4_; clear n0_ n1_ n2_ n3_ n4_; clear hb; (try clear ho0); obtain ⟨Ao22, co22, eo22⟩ := Kd.R_slice HO401.out; subst eo22) | ((with_reducible refine gate_builtin (b := .append) (xs := #[.tmp 20, .tmp 22]) rfl ?_); at_builtin; refine Kd.R_append_rows (Kd.int .i64) (w0 := w) w.heap.size rfl (.tmp 20) (.tmp 22) 28 2 (.int .i64 0) 8 rfl Tryd.underlying28 info2 rfl (by decide) (by omega) v397 t396 t399 _ _ _ (fun k_ => some k_ ≠ (.slice Ao22 t399.length co22 : Value).ownBlock) (fun _ => False) rfl rfl ?aO ?aR (fun _ _ h => h) (fun _ h => h.elim) ?aF ?aB ?aS ?aL ?_; (case aR => repeat (first | exact (Kd.R_reads' HO401.out).2.2 | (with_reducible refine Kd.C_alloc ?_ _) | (with_reducible refine Kd.C_drewN ?_ _) | (with_reducible refine Kd.C_drew ?_))); (case aB => exact (belowG)); (case aF => exact (fun k_ hk => Kd.fresh' (Kd.R_lt (by (with_reducible repeat (first | apply Kd.R_alloc | apply Kd.R_drewN | apply Kd.R_drew)); exact HO401.out)) k_ hk)); (case aO => exact (by (with_reducible repeat (first | apply Kd.R_alloc | apply Kd.R_drewN | apply Kd.R_drew)); exact Kd.R_mono HO398.out (fun _ hk => hk.2))); (case aS => exact (below_size (belowG))); (case aL => have := LMc12.out; omega); intro v403 w21 ho hb hg hat; rw [← Ny402.out] at ho; have n0_ := Aside0.mk (blk_grown (g := gb393) (o := .cells #[.int .i64 a0_0, .string a0_1] 27 (0, 0)) (by (with_reducible repeat (first | refine blk_drewN ?_ _ | refine blk_drew ?_ | refine blk_alloc ?_ _)); exact BK393.out) hg (Kd.R_ne HO398.out BK393.out (by decide))); have n1_ := Aside0.mk (blk_grown (g := gb394) (o := .cells #[.int .i64 0, .int .i64 0, .string (⟨#[]⟩ : ByteArray), .string (⟨#[]⟩ : ByteArray)] 32 (0, 0)) (by (with_reducible repeat (first | refine blk_drewN ?_ _ | refine blk_drew ?_ | refine blk_alloc ?_ _)); exact BK394.out) hg (Kd.R_ne HO398.out BK394.out (by decide))); have n2_ := Aside0.mk (Kd.R_after (ok := (fun _ => True)) (by (with_reducible repeat (first | apply Kd.R_alloc | apply Kd.R_drewN | apply Kd.R_drew)); exact HO401.out) hg hat); have n3_ := Aside0.mk (hb); have n4_ := Aside0.mk (ho); replace BK393 := n0_; replace BK394 := n1_; replace HO401 := n2_; replace HB := n3_; have HO404 := n4_; clear HO398; clear n0_ n1_ n2_ n3_ n4_; clear ho hb hg hat))
   go_loopg [6, 7] k (fun kq v6 v7 w' => ∃ (x6_1 : Int) (x7_1 : Int), v6 = .int .i64 x6_1 ∧ v7 = .int .i64 x7_1 ∧ Aside0 (spec_FeedNormer.l0 kq y402 x6_1 x7_1 a0_0 a0_1 = some (r1, r2, r3, r4)) ∧ Aside0 (kq ≤ k) ∧ Aside0 (Kd.R (Kd.int .i64) 2 w' w.heap.size (fun _ => True) v403 y402) ∧ Aside0 (w'.heap[gb393]? = some (.cells #[.int .i64 a0_0, .string a0_1] 27 (0, 0))) ∧ Aside0 (w'.heap[gb394]? = some (.cells #[.int .i64 0, .int .i64 0, .string (⟨#[]⟩ : ByteArray), .string (⟨#[]⟩ : ByteArray)] 32 (0, 0))) ∧ Aside0 (Below w.heap.size w w'))
   case atStart => exact ⟨(0), (0), (by first | rfl | (simp; done) | (simp [*]; done)), (by first | rfl | (simp; done) | (simp [*]; done)), H', ⟨Nat.le_refl _⟩, ⟨by (with_reducible repeat (first | apply Kd.R_alloc | apply Kd.R_drewN | apply Kd.R_drew)); exact Kd.R_mono HO404.out (fun _ hk => trivial)⟩, ⟨by (with_reducible repeat (first | refine blk_drewN ?_ _ | refine blk_drew ?_ | refine blk_alloc ?_ _)); exact BK393.out⟩, ⟨by (with_reducible repeat (first | refine blk_drewN ?_ _ | refine blk_drew ?_ | refine blk_alloc ?_ _)); exact BK394.out⟩, ⟨belowG⟩⟩
   case round =>
    clear H'
    try clear c1; try clear c2; try clear p2; try clear c3; try clear c3b0; try clear c3b1; try clear c6; try clear c9; try clear c9b0; try clear c9b1; try clear c12; try clear c15; try clear c21; try clear hcz16_0; try clear hcz16_1; try clear hcz18_0; try clear hcz18_1; try clear hcz7_0; try clear hcz7_1; try clear hcz7_2; try clear hcz7_3; try clear hfz16_0; try clear hfz16_1; try clear hfz18_0; try clear hfz18_1; try clear hfz7_0; try clear hfz7_1; try clear hfz7_2; try clear hfz7_3
    obtain ⟨x6_1, x7_1, rfl, rfl, HA, HK1, HO_5, BK393, BK394, HB⟩ := hrel
    cases gk with
    | zero => exact absurd HA.out (by simp [spec_FeedNormer.l0])
    | succ k1 =>
     have H := HA.out; clear HA; simp only [spec_FeedNormer.l0] at H
     by_cases c23 : x7_1 < (y402.length : Int)
     ·rw [if_pos c23] at H
      have c23b0 : decide (x7_1 < (y402.length : Int)) = true := decide_eq_true c23; clear c23
      by_cases c24 : 0 ≤ x7_1
      ·rw [if_pos c24] at H
       have c24b0 : decide (0 ≤ x7_1) = true := decide_eq_true c24; clear c24; replace H := Option.bind_eq_some_iff.mp H; obtain ⟨t406, A250, H⟩ := H
       try dsimp only at H
       have A25 := Aside0.mk A250; clear A250
       by_cases c26 : t406 = true
       ·subst c26
        have H1 : (spec_FeedNormer.l0 k1 y402 x7_1 (wrap64 (x7_1 + 1)) a0_0 a0_1) = some (r1, r2, r3, r4) := by rw [if_pos rfl] at H; exact H
        clear H; have H := H1; clear H1; have H' := Aside0.mk H; clear H; obtain ⟨Ao27, co27, eo27⟩ := Kd.R_slice HO_5.out; subst eo27
        try go_wp2
        have n0_ := Aside0.mk (Kd.R_drew HO_5.out); have n1_ := Aside0.mk (blk_drew BK393.out); have n2_ := Aside0.mk (blk_drew BK394.out); have n3_ := Aside0.mk (below_drew1 HB.out); clear HO_5; clear BK393; clear BK394; clear HB; have HO_5 := n0_; have BK393 := n1_; have BK394 := n2_; have HB := n3_; clear n0_ n1_ n2_ n3_; have p405 : 0 ≤ (x7_1 : Int) := ode; have q405 : x7_1 < (y402.length : Int) := ode; obtain ⟨ad405, e405, hx405_0⟩ := Kd.at_int (Kd.R_reads' HO_5.out).2.2 x7_1 p405 q405; cases e405; replace p405 := eq_true p405; replace q405 := eq_true q405
        refine start_ (n := 7) (S := fun w' => w'.cell? ⟨gb393, 0, none⟩ = some (.int .i64 a0_0) ∧ w'.cell? ⟨gb393, 1, none⟩ = some (.string a0_1) ∧ w'.cell? (ad405.add (x7_1).toNat) = some (.int .i64 (rd y402 x7_1))) (ds := []) #[false,false,false,false,false,false,false] (by kernel_rfl) rfl rfl ⟨(blk_cell BK393.out 0).trans rfl, (blk_cell BK393.out 1).trans rfl, hx405_0⟩ (fun hHeld => ?_)
        generalize wr.drew = w28 at HO_5 BK393 BK394 HB hx405_0 hHeld ⊢
        refine pure_ (i := 0) (N := some 30) (v := ?_) (a' := ?_) #[true,false,false,false,false,false,false] rfl rfl (by kernel_rfl) (fun _ _ _ h => h) (Or.inl ⟨by rfl, ?_⟩) ?_ ?_
        rotate_left
        ·intro w'
         go_simp; with_reducible rfl
        rotate_left
        ·simp only [Act.put, List.setIfInBounds_toArray, List.set_cons_zero, List.set_cons_succ, i64_w, i32_w]
         rfl
        refine pure_ (i := 2) (N := some 32) (v := ?_) (a' := ?_) #[true,false,true,false,false,false,false] rfl rfl (by kernel_rfl) (fun _ _ _ h => h) (Or.inl ⟨by rfl, ?_⟩) ?_ ?_
        rotate_left
        ·intro w'
         go_simp; with_reducible rfl
        rotate_left
        ·simp only [Act.put, List.setIfInBounds_toArray, List.set_cons_zero, List.set_cons_succ, i64_w, i32_w]
         rfl
        refine pure_ (i := 3) (N := some 33) (v := ?_) (a' := ?_) #[true,false,true,true,false,false,false] rfl rfl (by kernel_rfl) (fun _ _ _ h => h) (Or.inl ⟨by rfl, ?_⟩) ?_ ?_
        rotate_left
        ·intro w'
         go_simp; with_reducible rfl
        rotate_left
        ·simp only [Act.put, List.setIfInBounds_toArray, List.set_cons_zero, List.set_cons_succ, i64_w, i32_w]
         rfl
        refine pure_ (i := 4) (N := some 34) (v := ?_) (a' := ?_) #[true,false,true,true,true,false,false] rfl rfl (by kernel_rfl) (fun _ _ _ h => h) (Or.inl ⟨by rfl, ?_⟩) ?_ ?_
        rotate_left
        ·intro w'
         go_simp; with_reducible rfl
        rotate_left
        ·simp only [Act.put, List.setIfInBounds_toArray, List.set_cons_zero, List.set_cons_succ, i64_w, i32_w]
         rfl
        refine take_ (i := 1) (N := some 31) (v := ?_) (a' := ?_) #[true,true,true,true,true,false,false] rfl rfl (by kernel_rfl) (fun _ _ _ h => h) (Or.inl ⟨by rfl, ?_⟩) hHeld ?_ ?_
        rotate_left
        ·rintro w' ⟨s0, s1, s2⟩
         go_simp; with_reducible rfl
        rotate_left
        ·simp only [Act.put, List.setIfInBounds_toArray, List.set_cons_zero, List.set_cons_succ, i64_w, i32_w]
         rfl
        refine take_ (i := 5) (N := some 35) (v := ?_) (a' := ?_) #[true,true,true,true,true,true,false] rfl rfl (by kernel_rfl) (fun _ _ _ h => h) (Or.inl ⟨by rfl, ?_⟩) hHeld ?_ ?_
        rotate_left
        ·rintro w' ⟨s0, s1, s2⟩
         go_simp; with_reducible rfl
        rotate_left
        ·simp only [Act.put, List.setIfInBounds_toArray, List.set_cons_zero, List.set_cons_succ, i64_w, i32_w]
         rfl
        refine one_ (i := 6) (N := some 36) #[true,true,true,true,true,true,true] rfl rfl (by kernel_rfl) (by decide) (fun K hK => ?_)
        refine goes_ Tryd.func97 (by kernel_rfl) rfl #[.int .i64 a0_0, .int .i64 (rd y402 x7_1)] (by rfl) rfl rfl (by (try simp only [List.map_toArray, List.map_cons, List.map_nil]); first | done | rfl | (simp only [List.length_drop, List.length_take]; rfl)) ?_
        with_reducible refine (spec_l05Safe.calls a0_0 (rd y402 x7_1) true _ A25.out).mono ?_
        rintro e w29 ⟨rfl, hb⟩; have HS2_ := (hb.cell (World.block_lt_of_cell? _ _ (hHeld.2.2))).trans (hHeld.2.2); refine ⟨_, rfl, ?_⟩; have n0_ := rbb HO_5.out hb; have n1_ := bkb BK393.out hb; have n2_ := bkb BK394.out hb; have n3_ := Aside0.mk (below_step (belowG) hb); clear HO_5; clear BK393; clear BK394; clear HB; have HO_5 := n0_; have BK393 := n1_; have BK394 := n2_; have HB := n3_; clear n0_ n1_ n2_ n3_
        (try clear hb)
        (try clear hb2)
        (try clear hk)
        (try clear hi)
        refine hK.out _ _ ⟨(blk_cell BK393.out 0).trans rfl, (blk_cell BK393.out 1).trans rfl, HS2_⟩ (fun hHeld => ?_)
        clear hK K
        refine norm_ (a' := ?_) ?_ ?_
        rotate_left
        ·show Act.put _ (some 36) _ = _
         simp only [Act.put, List.setIfInBounds_toArray, List.set_cons_zero, List.set_cons_succ, i64_w, i32_w]; rfl
        refine done_ (by kernel_rfl) ?_
        try go_wp2
        go_roundg k1
        case measure => have := HK1.out; omega
        case rel => exact ⟨(x7_1), (wrap64 (x7_1 + 1)), (by first | rfl | (simp; done) | (simp [*]; done)), (by first | rfl | (simp; done) | (simp [*]; done)), H', ⟨by have := HK1.out; omega⟩, ⟨by (with_reducible repeat (first | apply Kd.R_alloc | apply Kd.R_drewN | apply Kd.R_drew)); exact HO_5.out⟩, ⟨by (with_reducible repeat (first | refine blk_drewN ?_ _ | refine blk_drew ?_ | refine blk_alloc ?_ _)); exact BK393.out⟩, ⟨by (with_reducible repeat (first | refine blk_drewN ?_ _ | refine blk_drew ?_ | refine blk_alloc ?_ _)); exact BK394.out⟩, ⟨belowG⟩⟩
       replace c26 := Bool.eq_false_iff.mpr c26; subst c26
       have H1 : (spec_FeedNormer.l0 k1 y402 x6_1 (wrap64 (x7_1 + 1)) a0_0 a0_1) = some (r1, r2, r3, r4) := by rw [if_neg (show ¬ (false = true) by decide)] at H; exact H
       clear H; have H := H1; clear H1; have H' := Aside0.mk H; clear H; obtain ⟨Ao30, co30, eo30⟩ := Kd.R_slice HO_5.out; subst eo30
       try go_wp2
       have n0_ := Aside0.mk (Kd.R_drew HO_5.out); have n1_ := Aside0.mk (blk_drew BK393.out); have n2_ := Aside0.mk (blk_drew BK394.out); have n3_ := Aside0.mk (below_drew1 HB.out); clear HO_5; clear BK393; clear BK394; clear HB; have HO_5 := n0_; have BK393 := n1_; have BK394 := n2_; have HB := n3_; clear n0_ n1_ n2_ n3_; have p405 : 0 ≤ (x7_1 : Int) := ode; have q405 : x7_1 < (y402.length : Int) := ode; obtain ⟨ad405, e405, hx405_0⟩ := Kd.at_int (Kd.R_reads' HO_5.out).2.2 x7_1 p405 q405; cases e405; replace p405 := eq_true p405; replace q405 := eq_true q405
       refine start_ (n := 7) (S := fun w' => w'.cell? ⟨gb393, 0, none⟩ = some (.int .i64 a0_0) ∧ w'.cell? ⟨gb393, 1, none⟩ = some (.string a0_1) ∧ w'.cell? (ad405.add (x7_1).toNat) = some (.int .i64 (rd y402 x7_1))) (ds := []) #[false,false,false,false,false,false,false] (by kernel_rfl) rfl rfl ⟨(blk_cell BK393.out 0).trans rfl, (blk_cell BK393.out 1).trans rfl, hx405_0⟩ (fun hHeld => ?_)
       generalize wr.drew = w31 at HO_5 BK393 BK394 HB hx405_0 hHeld ⊢
       refine pure_ (i := 0) (N := some 30) (v := ?_) (a' := ?_) #[true,false,false,false,false,false,false] rfl rfl (by kernel_rfl) (fun _ _ _ h => h) (Or.inl ⟨by rfl, ?_⟩) ?_ ?_
       rotate_left
       ·intro w'
        go_simp; with_reducible rfl
       rotate_left
       ·simp only [Act.put, List.setIfInBounds_toArray, List.set_cons_zero, List.set_cons_succ, i64_w, i32_w]
        rfl
       refine pure_ (i := 2) (N := some 32) (v := ?_) (a' := ?_) #[true,false,true,false,false,false,false] rfl rfl (by kernel_rfl) (fun _ _ _ h => h) (Or.inl ⟨by rfl, ?_⟩) ?_ ?_
       rotate_left
       ·intro w'
        go_simp; with_reducible rfl
       rotate_left
       ·simp only [Act.put, List.setIfInBounds_toArray, List.set_cons_zero, List.set_cons_succ, i64_w, i32_w]
        rfl
       refine pure_ (i := 3) (N := some 33) (v := ?_) (a' := ?_) #[true,false,true,true,false,false,false] rfl rfl (by kernel_rfl) (fun _ _ _ h => h) (Or.inl ⟨by rfl, ?_⟩) ?_ ?_
       rotate_left
       ·intro w'
        go_simp; with_reducible rfl
       rotate_left
       ·simp only [Act.put, List.setIfInBounds_toArray, List.set_cons_zero, List.set_cons_succ, i64_w, i32_w]
        rfl
       refine pure_ (i := 4) (N := some 34) (v := ?_) (a' := ?_) #[true,false,true,true,true,false,false] rfl rfl (by kernel_rfl) (fun _ _ _ h => h) (Or.inl ⟨by rfl, ?_⟩) ?_ ?_
       rotate_left
       ·intro w'
        go_simp; with_reducible rfl
       rotate_left
       ·simp only [Act.put, List.setIfInBounds_toArray, List.set_cons_zero, List.set_cons_succ, i64_w, i32_w]
        rfl
       refine take_ (i := 1) (N := some 31) (v := ?_) (a' := ?_) #[true,true,true,true,true,false,false] rfl rfl (by kernel_rfl) (fun _ _ _ h => h) (Or.inl ⟨by rfl, ?_⟩) hHeld ?_ ?_
       rotate_left
       ·rintro w' ⟨s0, s1, s2⟩
        go_simp; with_reducible rfl
       rotate_left
       ·simp only [Act.put, List.setIfInBounds_toArray, List.set_cons_zero, List.set_cons_succ, i64_w, i32_w]
        rfl
       refine take_ (i := 5) (N := some 35) (v := ?_) (a' := ?_) #[true,true,true,true,true,true,false] rfl rfl (by kernel_rfl) (fun _ _ _ h => h) (Or.inl ⟨by rfl, ?_⟩) hHeld ?_ ?_
       rotate_left
       ·rintro w' ⟨s0, s1, s2⟩
        go_simp; with_reducible rfl
       rotate_left
       ·simp only [Act.put, List.setIfInBounds_toArray, List.set_cons_zero, List.set_cons_succ, i64_w, i32_w]
        rfl
       refine one_ (i := 6) (N := some 36) #[true,true,true,true,true,true,true] rfl rfl (by kernel_rfl) (by decide) (fun K hK => ?_)
       refine goes_ Tryd.func97 (by kernel_rfl) rfl #[.int .i64 a0_0, .int .i64 (rd y402 x7_1)] (by rfl) rfl rfl (by (try simp only [List.map_toArray, List.map_cons, List.map_nil]); first | done | rfl | (simp only [List.length_drop, List.length_take]; rfl)) ?_
       with_reducible refine (spec_l05Safe.calls a0_0 (rd y402 x7_1) false _ A25.out).mono ?_
       rintro e w32 ⟨rfl, hb⟩; have HS2_ := (hb.cell (World.block_lt_of_cell? _ _ (hHeld.2.2))).trans (hHeld.2.2); refine ⟨_, rfl, ?_⟩; have n0_ := rbb HO_5.out hb; have n1_ := bkb BK393.out hb; have n2_ := bkb BK394.out hb; have n3_ := Aside0.mk (below_step (belowG) hb); clear HO_5; clear BK393; clear BK394; clear HB; have HO_5 := n0_; have BK393 := n1_; have BK394 := n2_; have HB := n3_; clear n0_ n1_ n2_ n3_
       (try clear hb)
       (try clear hb2)
       (try clear hk)
       (try clear hi)
       refine hK.out _ _ ⟨(blk_cell BK393.out 0).trans rfl, (blk_cell BK393.out 1).trans rfl, HS2_⟩ (fun hHeld => ?_)
       clear hK K
       refine norm_ (a' := ?_) ?_ ?_
       rotate_left
       ·show Act.put _ (some 36) _ = _
        simp only [Act.put, List.setIfInBounds_toArray, List.set_cons_zero, List.set_cons_succ, i64_w, i32_w]; rfl
       refine done_ (by kernel_rfl) ?_
       try go_wp2
       go_roundg k1
       case measure => have := HK1.out; omega
       case rel => exact ⟨(x6_1), (wrap64 (x7_1 + 1)), (by first | rfl | (simp; done) | (simp [*]; done)), (by first | rfl | (simp; done) | (simp [*]; done)), H', ⟨by have := HK1.out; omega⟩, ⟨by (with_reducible repeat (first | apply Kd.R_alloc | apply Kd.R_drewN | apply Kd.R_drew)); exact HO_5.out⟩, ⟨by (with_reducible repeat (first | refine blk_drewN ?_ _ | refine blk_drew ?_ | refine blk_alloc ?_ _)); exact BK393.out⟩, ⟨by (with_reducible repeat (first | refine blk_drewN ?_ _ | refine blk_drew ?_ | refine blk_alloc ?_ _)); exact BK394.out⟩, ⟨belowG⟩⟩
      rw [if_neg c24] at H
      exact absurd H (by simp)
     rw [if_neg c23] at H; have c23b0 : decide (x7_1 < (y402.length : Int)) = false := decide_eq_false c23; clear c23
     by_cases c33 : 0 ≤ x6_1
     ·rw [if_pos c33] at H
      have c33b0 := eq_true c33; have c33b1 : decide (0 ≤ x6_1) = true := decide_eq_true c33; clear c33
      by_cases c34 : x6_1 ≤ (y402.length : Int)
      ·rw [if_pos c34] at H
       have c34b0 := eq_true c34; have c34b1 : decide (x6_1 ≤ (y402.length : Int)) = true := decide_eq_true c34; clear c34; obtain ⟨y407, hy407⟩ : ∃ y_ : List Int, y_ = (y402.take (x6_1 : Int).toNat) := ⟨_, rfl⟩
       replace H : ((W_spec_l05Norm.f a0_0 y407).bind fun t411 => ((W_spec_l01Text.f t411).bind fun t414 => ((W_spec_l01Text.f (y402.drop (x6_1 : Int).toNat)).bind fun t419 => (if (t414.size : Int) > 65536 then (some (2, 0, (⟨#[]⟩ : ByteArray), (⟨#[]⟩ : ByteArray))) else (if (t419.size : Int) > 1000 then (some (8, 0, (⟨#[]⟩ : ByteArray), (⟨#[]⟩ : ByteArray))) else (some (0, a0_0, t419, t414))))))) = some (r1, r2, r3, r4) := by first | (rw [hy407]; with_reducible exact H) | (have H2_ := (Option.bind_some _ _).symm.trans H; rw [hy407]; with_reducible exact H2_) | (have H2_ := (Option.bind_some _ _).symm.trans H; with_reducible exact H2_) | with_reducible exact H | (rw [hy407]; exact H) | exact H
       have Ny407 := Aside0.mk hy407; clear hy407; replace H := Option.bind_eq_some_iff.mp H; obtain ⟨t411, A350, H⟩ := H
       try dsimp only at H
       have A35 := Aside0.mk A350; clear A350; replace H := Option.bind_eq_some_iff.mp H; obtain ⟨t414, A360, H⟩ := H
       try dsimp only at H
       have A36 := Aside0.mk A360; clear A360; have c37b0 := eq_true (ode : 0 ≤ x6_1); have c38b0 := eq_true (ode : x6_1 ≤ (y402.length : Int)); obtain ⟨y415, hy415⟩ : ∃ y_ : List Int, y_ = (y402.drop (x6_1 : Int).toNat) := ⟨_, rfl⟩
       replace H : ((W_spec_l01Text.f y415).bind fun t419 => (if (t414.size : Int) > 65536 then (some (2, 0, (⟨#[]⟩ : ByteArray), (⟨#[]⟩ : ByteArray))) else (if (t419.size : Int) > 1000 then (some (8, 0, (⟨#[]⟩ : ByteArray), (⟨#[]⟩ : ByteArray))) else (some (0, a0_0, t419, t414))))) = some (r1, r2, r3, r4) := by first | (rw [hy415]; with_reducible exact H) | (have H2_ := (Option.bind_some _ _).symm.trans H; rw [hy415]; with_reducible exact H2_) | (have H2_ := (Option.bind_some _ _).symm.trans H; with_reducible exact H2_) | with_reducible exact H | (rw [hy415]; exact H) | exact H
       have Ny415 := Aside0.mk hy415; clear hy415; replace H := Option.bind_eq_some_iff.mp H; obtain ⟨t419, A390, H⟩ := H
       try dsimp only at H
       have A39 := Aside0.mk A390; clear A390
       by_cases c40 : (t414.size : Int) > 65536
       ·rw [if_pos c40] at H
        have c40b0 : decide (65536 < (t414.size : Int)) = true := decide_eq_true c40
        have c40b1 : decide (65536 < t414.size) = true := decide_eq_true (by omega)
        clear c40; simp only [Option.some.injEq, Prod.mk.injEq] at H; obtain ⟨rfl, rfl, rfl, rfl⟩ := H; obtain ⟨Ao41, co41, eo41⟩ := Kd.R_slice HO_5.out; subst eo41
        try go_wp2
        have n0_ := Aside0.mk (Kd.R_drew HO_5.out); have n1_ := Aside0.mk (blk_drew BK393.out); have n2_ := Aside0.mk (blk_drew BK394.out); have n3_ := Aside0.mk (below_drew1 HB.out); clear HO_5; clear BK393; clear BK394; clear HB; have HO_5 := n0_; have BK393 := n1_; have BK394 := n2_; have HB := n3_; clear n0_ n1_ n2_ n3_; have q43 : (x6_1 : Int) ≤ ((y402.length : Int) : Int) := ode; obtain ⟨i043, hi043, _, hsz43, _⟩ := info_parts info2; have hroom43 : y402.length ≤ co41 := (Kd.R_reads' HO_5.out).2.1; have hC43 : Kd.C (Kd.int .i64) _ Ao41 y402.length y402 := (Kd.R_reads' HO_5.out).2.2; have hcut43 := cut_to (P := Tryd.prog) 28 2 .i64 Tryd.underlying28 hi043 Ao41 y402.length co41 x6_1 (ode) q43 hroom43
        have hr43 := Kd.C_take (m := (x6_1 : Int).toNat) hC43 (by omega)
        have hy43 : y407.length = (x6_1 : Int).toNat := (by rw [Ny407.out, List.length_take]; omega)
        rw [← Ny407.out] at hr43; rw [← hy43] at hcut43; have HR410 := Aside0.mk hr43
        have HC410 := Aside0.mk (show y407.length ≤ co41 from by omega)
        clear hr43 hC43 hroom43 hi043 hsz43; have KY43 := Aside0.mk hy43; clear hy43
        have KL43 := Aside0.mk (show (x6_1 : Int).toNat ≤ y402.length from by omega)
        replace q43 := eq_true q43
        refine start_ (n := 8) (S := fun w' => w'.cell? ⟨gb393, 0, none⟩ = some (.int .i64 a0_0) ∧ w'.cell? ⟨gb393, 1, none⟩ = some (.string a0_1)) (ds := []) #[false,false,false,false,false,false,false,false] (by kernel_rfl) rfl rfl ⟨(blk_cell BK393.out 0).trans rfl, (blk_cell BK393.out 1).trans rfl⟩ (fun hHeld => ?_); refine with_tabW spec_FeedNormer.tab12 spec_FeedNormer.bits12 (fun HT_ HW_ => ?_)
        generalize wr.drew = w42 at HO_5 BK393 BK394 HB HR410 hHeld ⊢
        refine pure_ (i := 0) (N := some 38) (v := ?_) (a' := ?_) #[true,false,false,false,false,false,false,false] rfl rfl (any_of HT_.out (by kernel_rfl)) (fun _ _ _ h => h) (Or.inl ⟨by rfl, ?_⟩) ?_ ?_
        rotate_left
        ·intro w'
         go_simp; with_reducible rfl
        rotate_left
        ·simp only [Act.put, List.setIfInBounds_toArray, List.set_cons_zero, List.set_cons_succ, i64_w, i32_w]
         rfl
        refine pure_ (i := 2) (N := some 40) (v := ?_) (a' := ?_) #[true,false,true,false,false,false,false,false] rfl rfl (any_of HT_.out (by kernel_rfl)) (fun _ _ _ h => h) (Or.inl ⟨by rfl, ?_⟩) ?_ ?_
        rotate_left
        ·intro w'
         go_simp; with_reducible rfl
        rotate_left
        ·simp only [Act.put, List.setIfInBounds_toArray, List.set_cons_zero, List.set_cons_succ, i64_w, i32_w]
         rfl
        refine pure_ (i := 3) (N := some 41) (v := ?_) (a' := ?_) #[true,false,true,true,false,false,false,false] rfl rfl (any_of HT_.out (by kernel_rfl)) (fun _ _ _ h => h) (Or.inl ⟨by rfl, ?_⟩) ?_ ?_
        rotate_left
        ·intro w'
         go_simp; with_reducible rfl
        rotate_left
        ·simp only [Act.put, List.setIfInBounds_toArray, List.set_cons_zero, List.set_cons_succ, i64_w, i32_w]
         rfl
        refine pure_ (i := 4) (N := some 42) (v := ?_) (a' := ?_) #[true,false,true,true,true,false,false,false] rfl rfl (any_of HT_.out (by kernel_rfl)) (fun _ _ _ h => h) (Or.inl ⟨by rfl, ?_⟩) ?_ ?_
        rotate_left
        ·intro w'
         go_simp; with_reducible rfl
        rotate_left
        ·simp only [Act.put, List.setIfInBounds_toArray, List.set_cons_zero, List.set_cons_succ, i64_w, i32_w]
         rfl
        refine take_ (i := 1) (N := some 39) (v := ?_) (a' := ?_) #[true,true,true,true,true,false,false,false] rfl rfl (take_ofW HT_.out HW_.out (by kernel_rfl)) (fun _ _ _ h => h) (Or.inl ⟨by rfl, ?_⟩) hHeld ?_ ?_
        rotate_left
        ·rintro w' ⟨s0, s1⟩
         go_simp; with_reducible rfl
        rotate_left
        ·simp only [Act.put, List.setIfInBounds_toArray, List.set_cons_zero, List.set_cons_succ, i64_w, i32_w]
         rfl
        refine one_ (i := 5) (N := some 43) #[true,true,true,true,true,true,false,false] rfl rfl (one_of HT_.out (by kernel_rfl)) (by decide) (fun K hK => ?_)
        refine goes_ Tryd.func98 (by kernel_rfl) rfl #[.int .i64 a0_0, .slice Ao41 y407.length co41] (by rfl) rfl rfl (by (try simp only [List.map_toArray, List.map_cons, List.map_nil]); first | done | rfl | (simp only [List.length_drop, List.length_take]; rfl)) ?_
        with_reducible refine (W_spec_l05Norm.calls a0_0 _ _ y407 t411 _ ?side1 ?side2 A35.out).mono ?_
        (case side1 => repeat (first | exact (by repeat (first | (with_reducible exact HR410.out) | (with_reducible refine Kd.C_alloc ?_ _) | (with_reducible refine Kd.C_drewN ?_ _) | (with_reducible refine Kd.C_drew ?_) | exact HR410.out)) | (with_reducible refine Kd.C_alloc ?_ _) | (with_reducible refine Kd.C_drewN ?_ _) | (with_reducible refine Kd.C_drew ?_)))
        (case side2 => exact HC410.out)
        rintro e w44 ⟨v412, rfl, ho0, hb⟩; refine ⟨_, rfl, ?_⟩
        have n0_ := Aside0.mk (Kd.R_elder' (by (with_reducible repeat (first | apply Kd.R_alloc | apply Kd.R_drewN | apply Kd.R_drew)); exact HO_5.out) (Kd.R_base ho0) hb)
        have n1_ := Aside0.mk (Kd.R_lower (Kd.R_new' ho0 (Kd.R_lt (by (with_reducible repeat (first | apply Kd.R_alloc | apply Kd.R_drewN | apply Kd.R_drew)); exact HO_5.out))) (below_size (belowG)))
        have n2_ := bkb BK393.out hb; have n3_ := bkb BK394.out hb; have n4_ := cbb HR410.out hb; have n5_ := Aside0.mk (below_step (belowG) hb); clear HO_5; clear BK393; clear BK394; clear HR410; clear HB; have HO_5 := n0_; have HO413 := n1_; have BK393 := n2_; have BK394 := n3_; have HR410 := n4_; have HB := n5_; clear n0_ n1_ n2_ n3_ n4_ n5_
        (try clear hb)
        (try clear hb2)
        (try clear hk)
        (try clear hi)
        (try clear ho0)
        obtain ⟨Ao45, co45, eo45⟩ := Kd.R_slice HO413.out
        (first | subst eo45 | (injection eo45 with f1_ f2_ f3_; have f4_ := f1_.symm; have f5_ := f3_.symm; clear f1_ f2_ f3_; subst f4_; subst f5_))
        refine hK.out _ _ ⟨(blk_cell BK393.out 0).trans rfl, (blk_cell BK393.out 1).trans rfl⟩ (fun hHeld => ?_)
        clear hK K
        refine norm_ (a' := ?_) ?_ ?_
        rotate_left
        ·show Act.put _ (some 43) _ = _
         simp only [Act.put, List.setIfInBounds_toArray, List.set_cons_zero, List.set_cons_succ, i64_w, i32_w]; rfl
        refine one_ (i := 6) (N := some 44) #[true,true,true,true,true,true,true,false] rfl rfl (one_of HT_.out (by kernel_rfl)) (by decide) (fun K hK => ?_)
        refine goes_ Tryd.func95 (by kernel_rfl) rfl #[.slice Ao45 t411.length co45] (by rfl) rfl rfl (by (try simp only [List.map_toArray, List.map_cons, List.map_nil]); first | done | rfl | (simp only [List.length_drop, List.length_take]; rfl)) ?_
        with_reducible refine (W_spec_l01Text.calls _ _ t411 t414 _ ?side1 ?side2 A36.out).mono ?_
        (case side1 => repeat (first | exact (Kd.R_reads' HO413.out).2.2 | (with_reducible refine Kd.C_alloc ?_ _) | (with_reducible refine Kd.C_drewN ?_ _) | (with_reducible refine Kd.C_drew ?_)))
        (case side2 => exact (Kd.R_reads' HO413.out).2.1)
        rintro e w46 ⟨rfl, hb⟩; refine ⟨_, rfl, ?_⟩; have n0_ := rbb HO_5.out hb; have n1_ := rbb HO413.out hb; have n2_ := bkb BK393.out hb; have n3_ := bkb BK394.out hb; have n4_ := cbb HR410.out hb; have n5_ := Aside0.mk (below_step (belowG) hb); clear HO_5; clear HO413; clear BK393; clear BK394; clear HR410; clear HB; have HO_5 := n0_; have HO413 := n1_; have BK393 := n2_; have BK394 := n3_; have HR410 := n4_; have HB := n5_; clear n0_ n1_ n2_ n3_ n4_ n5_
        (try clear hb)
        (try clear hb2)
        (try clear hk)
        (try clear hi)
        refine hK.out _ _ ⟨(blk_cell BK393.out 0).trans rfl, (blk_cell BK393.out 1).trans rfl⟩ (fun hHeld => ?_)
        clear hK K
        refine norm_ (a' := ?_) ?_ ?_
        rotate_left
        ·show Act.put _ (some 44) _ = _
         simp only [Act.put, List.setIfInBounds_toArray, List.set_cons_zero, List.set_cons_succ, i64_w, i32_w]; rfl
        refine pure_ (i := 7) (N := some 8) (v := ?_) (a' := ?_) #[true,true,true,true,true,true,true,true] rfl rfl (any_of HT_.out (by kernel_rfl)) (fun _ _ _ h => h) (Or.inl ⟨by rfl, ?_⟩) ?_ ?_
        rotate_left
        ·intro w'
         go_simp; with_reducible rfl
        rotate_left
        ·simp only [Act.put, List.setIfInBounds_toArray, List.set_cons_zero, List.set_cons_succ, i64_w, i32_w]
         rfl
        refine done_ (done_of HT_.out (by kernel_rfl)) ?_
        have q47 : (x6_1 : Int) ≤ ((y402.length : Int) : Int) := ode; obtain ⟨i047, hi047, _, hsz47, _⟩ := info_parts info2; have hroom47 : y402.length ≤ co41 := (Kd.R_reads' HO_5.out).2.1; have hC47 : Kd.C (Kd.int .i64) _ Ao41 y402.length y402 := (Kd.R_reads' HO_5.out).2.2; have q047 : (0 : Int) ≤ (x6_1 : Int) := ode; have hcut47 := cut_from (P := Tryd.prog) 28 2 .i64 Tryd.underlying28 hi047 1 hsz47 Ao41 y402.length co41 x6_1 q047 q47
        have hr47 := Kd.C_drop (m := (x6_1 : Int).toNat) (c := co41) hC47 (by omega) hroom47
        obtain ⟨A47, hA47⟩ : ∃ A1, A1 = (if co41 = (x6_1 : Int).toNat then Ao41 else (Ao41 : Option Addr).map (·.add ((x6_1 : Int).toNat * 1))) := ⟨_, rfl⟩; obtain ⟨c47, hc47⟩ : ∃ c1, c1 = co41 - (x6_1 : Int).toNat := ⟨_, rfl⟩
        have hy47 : y415.length = y402.length - (x6_1 : Int).toNat := (by rw [Ny415.out, List.length_drop] <;> omega)
        rw [show (y402).drop (x6_1 : Int).toNat = y415 from Ny415.out.symm] at hr47
        replace hr47 : Kd.C (Kd.int .i64) _ A47 y415.length y415 := (by rw [hA47]; exact hr47)
        rw [← hy47, ← hA47, ← hc47] at hcut47; have HR418 := Aside0.mk hr47
        have HC418 := Aside0.mk (show y415.length ≤ c47 from by rw [hy47, hc47]; exact Nat.sub_le_sub_right hroom47 _)
        clear hr47 hC47 hroom47 hi047 hsz47 hc47; have KY47 := Aside0.mk hy47; have KA47 := Aside0.mk hA47; clear hy47 hA47
        have KL47 := Aside0.mk (show (x6_1 : Int).toNat ≤ y402.length from by omega)
        replace q47 := eq_true q47
        try go_wp2_with (first | (go_at_call 95; (with_reducible refine (W_spec_l01Text.calls _ _ y415 t419 _ ?side1 ?side2 A39.out).mono ?_); (case side1 => repeat (first | exact (by repeat (first | (with_reducible exact HR418.out) | (with_reducible refine Kd.C_alloc ?_ _) | (with_reducible refine Kd.C_drewN ?_ _) | (with_reducible refine Kd.C_drew ?_) | exact HR418.out)) | (with_reducible refine Kd.C_alloc ?_ _) | (with_reducible refine Kd.C_drewN ?_ _) | (with_reducible refine Kd.C_drew ?_))); (case side2 => exact HC418.out); rintro e w48 ⟨rfl, hb⟩; have n0_ := rbb HO_5.out hb; have n1_ := rbb HO413.out hb; have n2_ := bkb BK393.out hb; have n3_ := bkb BK394.out hb; have n4_ := cbb HR410.out hb; have n5_ := cbb HR418.out hb; have n6_ := Aside0.mk (below_step (belowG) hb); replace HO_5 := n0_; replace HO413 := n1_; replace BK393 := n2_; replace BK394 := n3_; replace HR410 := n4_; replace HR418 := n5_; replace HB := n6_; clear n0_ n1_ n2_ n3_ n4_ n5_ n6_; clear hb; have hnb49 := NB394_393.out; have hnc49 := NB393_394.out; have hcz50_0 : w48.cell? ⟨gb394, 0, none⟩ = some (.int .i64 0) := (blk_cell BK394.out 0).trans rfl; have hcz50_1 : w48.cell? ⟨gb394, 1, none⟩ = some (.int .i64 0) := (blk_cell BK394.out 1).trans rfl; have hcz50_2 : w48.cell? ⟨gb394, 2, none⟩ = some (.string (⟨#[]⟩ : ByteArray)) := (blk_cell BK394.out 2).trans rfl; have hcz50_3 : w48.cell? ⟨gb394, 3, none⟩ = some (.string (⟨#[]⟩ : ByteArray)) := (blk_cell BK394.out 3).trans rfl; have hfz50_0 := blk_frozen BK394.out 0; have hfz50_1 := blk_frozen BK394.out 1; have hfz50_2 := blk_frozen BK394.out 2; have hfz50_3 := blk_frozen BK394.out 3))
        refine bodyPost_ret (results_cell_row rfl _ _ gb394 32 #[.int .i64 2, .int .i64 0, .string (⟨#[]⟩ : ByteArray), .string (⟨#[]⟩ : ByteArray)] (0, 0) _ rfl (by (with_reducible repeat (first | refine blk_drewN ?_ _ | refine blk_drew ?_ | refine blk_alloc ?_ _)); refine blk_put (cs := #[.int .i64 2, .int .i64 0, .string (⟨#[]⟩ : ByteArray), .string (⟨#[]⟩ : ByteArray)]) ?_ 3 _ rfl; (with_reducible repeat (first | refine blk_drewN ?_ _ | refine blk_drew ?_ | refine blk_alloc ?_ _)); refine blk_put (cs := #[.int .i64 2, .int .i64 0, .string (⟨#[]⟩ : ByteArray), .string (⟨#[]⟩ : ByteArray)]) ?_ 2 _ rfl; (with_reducible repeat (first | refine blk_drewN ?_ _ | refine blk_drew ?_ | refine blk_alloc ?_ _)); refine blk_put (cs := #[.int .i64 2, .int .i64 0, .string (⟨#[]⟩ : ByteArray), .string (⟨#[]⟩ : ByteArray)]) ?_ 1 _ rfl; (with_reducible repeat (first | refine blk_drewN ?_ _ | refine blk_drew ?_ | refine blk_alloc ?_ _)); refine blk_put (cs := #[.int .i64 0, .int .i64 0, .string (⟨#[]⟩ : ByteArray), .string (⟨#[]⟩ : ByteArray)]) ?_ 0 _ rfl; (with_reducible repeat (first | refine blk_drewN ?_ _ | refine blk_drew ?_ | refine blk_alloc ?_ _)); exact BK394.out) Tryd.underlying32 rfl (by kernel_rfl)) rfl ?_
        exact ⟨by first | rfl | (simp [errW_none, errW_some] <;> rfl) | (simp [*, errW_none, errW_some] <;> rfl), belowG⟩
       rw [if_neg c40] at H; have c40b0 : decide (65536 < (t414.size : Int)) = false := decide_eq_false c40
       have c40b1 : decide (65536 < t414.size) = false := decide_eq_false (by omega)
       clear c40
       by_cases c51 : (t419.size : Int) > 1000
       ·rw [if_pos c51] at H
        have c51b0 : decide (1000 < (t419.size : Int)) = true := decide_eq_true c51
        have c51b1 : decide (1000 < t419.size) = true := decide_eq_true (by omega)
        clear c51; simp only [Option.some.injEq, Prod.mk.injEq] at H; obtain ⟨rfl, rfl, rfl, rfl⟩ := H; obtain ⟨Ao52, co52, eo52⟩ := Kd.R_slice HO_5.out; subst eo52
        try go_wp2
        have n0_ := Aside0.mk (Kd.R_drew HO_5.out); have n1_ := Aside0.mk (blk_drew BK393.out); have n2_ := Aside0.mk (blk_drew BK394.out); have n3_ := Aside0.mk (below_drew1 HB.out); clear HO_5; clear BK393; clear BK394; clear HB; have HO_5 := n0_; have BK393 := n1_; have BK394 := n2_; have HB := n3_; clear n0_ n1_ n2_ n3_; have q54 : (x6_1 : Int) ≤ ((y402.length : Int) : Int) := ode; obtain ⟨i054, hi054, _, hsz54, _⟩ := info_parts info2; have hroom54 : y402.length ≤ co52 := (Kd.R_reads' HO_5.out).2.1; have hC54 : Kd.C (Kd.int .i64) _ Ao52 y402.length y402 := (Kd.R_reads' HO_5.out).2.2; have hcut54 := cut_to (P := Tryd.prog) 28 2 .i64 Tryd.underlying28 hi054 Ao52 y402.length co52 x6_1 (ode) q54 hroom54
        have hr54 := Kd.C_take (m := (x6_1 : Int).toNat) hC54 (by omega)
        have hy54 : y407.length = (x6_1 : Int).toNat := (by rw [Ny407.out, List.length_take]; omega)
        rw [← Ny407.out] at hr54; rw [← hy54] at hcut54; have HR410 := Aside0.mk hr54
        have HC410 := Aside0.mk (show y407.length ≤ co52 from by omega)
        clear hr54 hC54 hroom54 hi054 hsz54; have KY54 := Aside0.mk hy54; clear hy54
        have KL54 := Aside0.mk (show (x6_1 : Int).toNat ≤ y402.length from by omega)
        replace q54 := eq_true q54
        refine start_ (n := 8) (S := fun w' => w'.cell? ⟨gb393, 0, none⟩ = some (.int .i64 a0_0) ∧ w'.cell? ⟨gb393, 1, none⟩ = some (.string a0_1)) (ds := []) #[false,false,false,false,false,false,false,false] (by kernel_rfl) rfl rfl ⟨(blk_cell BK393.out 0).trans rfl, (blk_cell BK393.out 1).trans rfl⟩ (fun hHeld => ?_); refine with_tabW spec_FeedNormer.tab12 spec_FeedNormer.bits12 (fun HT_ HW_ => ?_)
        generalize wr.drew = w53 at HO_5 BK393 BK394 HB HR410 hHeld ⊢
        refine pure_ (i := 0) (N := some 38) (v := ?_) (a' := ?_) #[true,false,false,false,false,false,false,false] rfl rfl (any_of HT_.out (by kernel_rfl)) (fun _ _ _ h => h) (Or.inl ⟨by rfl, ?_⟩) ?_ ?_
        rotate_left
        ·intro w'
         go_simp; with_reducible rfl
        rotate_left
        ·simp only [Act.put, List.setIfInBounds_toArray, List.set_cons_zero, List.set_cons_succ, i64_w, i32_w]
         rfl
        refine pure_ (i := 2) (N := some 40) (v := ?_) (a' := ?_) #[true,false,true,false,false,false,false,false] rfl rfl (any_of HT_.out (by kernel_rfl)) (fun _ _ _ h => h) (Or.inl ⟨by rfl, ?_⟩) ?_ ?_
        rotate_left
        ·intro w'
         go_simp; with_reducible rfl
        rotate_left
        ·simp only [Act.put, List.setIfInBounds_toArray, List.set_cons_zero, List.set_cons_succ, i64_w, i32_w]
         rfl
        refine pure_ (i := 3) (N := some 41) (v := ?_) (a' := ?_) #[true,false,true,true,false,false,false,false] rfl rfl (any_of HT_.out (by kernel_rfl)) (fun _ _ _ h => h) (Or.inl ⟨by rfl, ?_⟩) ?_ ?_
        rotate_left
        ·intro w'
         go_simp; with_reducible rfl
        rotate_left
        ·simp only [Act.put, List.setIfInBounds_toArray, List.set_cons_zero, List.set_cons_succ, i64_w, i32_w]
         rfl
        refine pure_ (i := 4) (N := some 42) (v := ?_) (a' := ?_) #[true,false,true,true,true,false,false,false] rfl rfl (any_of HT_.out (by kernel_rfl)) (fun _ _ _ h => h) (Or.inl ⟨by rfl, ?_⟩) ?_ ?_
        rotate_left
        ·intro w'
         go_simp; with_reducible rfl
        rotate_left
        ·simp only [Act.put, List.setIfInBounds_toArray, List.set_cons_zero, List.set_cons_succ, i64_w, i32_w]
         rfl
        refine take_ (i := 1) (N := some 39) (v := ?_) (a' := ?_) #[true,true,true,true,true,false,false,false] rfl rfl (take_ofW HT_.out HW_.out (by kernel_rfl)) (fun _ _ _ h => h) (Or.inl ⟨by rfl, ?_⟩) hHeld ?_ ?_
        rotate_left
        ·rintro w' ⟨s0, s1⟩
         go_simp; with_reducible rfl
        rotate_left
        ·simp only [Act.put, List.setIfInBounds_toArray, List.set_cons_zero, List.set_cons_succ, i64_w, i32_w]
         rfl
        refine one_ (i := 5) (N := some 43) #[true,true,true,true,true,true,false,false] rfl rfl (one_of HT_.out (by kernel_rfl)) (by decide) (fun K hK => ?_)
        refine goes_ Tryd.func98 (by kernel_rfl) rfl #[.int .i64 a0_0, .slice Ao52 y407.length co52] (by rfl) rfl rfl (by (try simp only [List.map_toArray, List.map_cons, List.map_nil]); first | done | rfl | (simp only [List.length_drop, List.length_take]; rfl)) ?_
        with_reducible refine (W_spec_l05Norm.calls a0_0 _ _ y407 t411 _ ?side1 ?side2 A35.out).mono ?_
        (case side1 => repeat (first | exact (by repeat (first | (with_reducible exact HR410.out) | (with_reducible refine Kd.C_alloc ?_ _) | (with_reducible refine Kd.C_drewN ?_ _) | (with_reducible refine Kd.C_drew ?_) | exact HR410.out)) | (with_reducible refine Kd.C_alloc ?_ _) | (with_reducible refine Kd.C_drewN ?_ _) | (with_reducible refine Kd.C_drew ?_)))
        (case side2 => exact HC410.out)
        rintro e w55 ⟨v412, rfl, ho0, hb⟩; refine ⟨_, rfl, ?_⟩
        have n0_ := Aside0.mk (Kd.R_elder' (by (with_reducible repeat (first | apply Kd.R_alloc | apply Kd.R_drewN | apply Kd.R_drew)); exact HO_5.out) (Kd.R_base ho0) hb)
        have n1_ := Aside0.mk (Kd.R_lower (Kd.R_new' ho0 (Kd.R_lt (by (with_reducible repeat (first | apply Kd.R_alloc | apply Kd.R_drewN | apply Kd.R_drew)); exact HO_5.out))) (below_size (belowG)))
        have n2_ := bkb BK393.out hb; have n3_ := bkb BK394.out hb; have n4_ := cbb HR410.out hb; have n5_ := Aside0.mk (below_step (belowG) hb); clear HO_5; clear BK393; clear BK394; clear HR410; clear HB; have HO_5 := n0_; have HO413 := n1_; have BK393 := n2_; have BK394 := n3_; have HR410 := n4_; have HB := n5_; clear n0_ n1_ n2_ n3_ n4_ n5_
        (try clear hb)
        (try clear hb2)
        (try clear hk)
        (try clear hi)
        (try clear ho0)
        obtain ⟨Ao56, co56, eo56⟩ := Kd.R_slice HO413.out
        (first | subst eo56 | (injection eo56 with f1_ f2_ f3_; have f4_ := f1_.symm; have f5_ := f3_.symm; clear f1_ f2_ f3_; subst f4_; subst f5_))
        refine hK.out _ _ ⟨(blk_cell BK393.out 0).trans rfl, (blk_cell BK393.out 1).trans rfl⟩ (fun hHeld => ?_)
        clear hK K
        refine norm_ (a' := ?_) ?_ ?_
        rotate_left
        ·show Act.put _ (some 43) _ = _
         simp only [Act.put, List.setIfInBounds_toArray, List.set_cons_zero, List.set_cons_succ, i64_w, i32_w]; rfl
        refine one_ (i := 6) (N := some 44) #[true,true,true,true,true,true,true,false] rfl rfl (one_of HT_.out (by kernel_rfl)) (by decide) (fun K hK => ?_)
        refine goes_ Tryd.func95 (by kernel_rfl) rfl #[.slice Ao56 t411.length co56] (by rfl) rfl rfl (by (try simp only [List.map_toArray, List.map_cons, List.map_nil]); first | done | rfl | (simp only [List.length_drop, List.length_take]; rfl)) ?_
        with_reducible refine (W_spec_l01Text.calls _ _ t411 t414 _ ?side1 ?side2 A36.out).mono ?_
        (case side1 => repeat (first | exact (Kd.R_reads' HO413.out).2.2 | (with_reducible refine Kd.C_alloc ?_ _) | (with_reducible refine Kd.C_drewN ?_ _) | (with_reducible refine Kd.C_drew ?_)))
        (case side2 => exact (Kd.R_reads' HO413.out).2.1)
        rintro e w57 ⟨rfl, hb⟩; refine ⟨_, rfl, ?_⟩; have n0_ := rbb HO_5.out hb; have n1_ := rbb HO413.out hb; have n2_ := bkb BK393.out hb; have n3_ := bkb BK394.out hb; have n4_ := cbb HR410.out hb; have n5_ := Aside0.mk (below_step (belowG) hb); clear HO_5; clear HO413; clear BK393; clear BK394; clear HR410; clear HB; have HO_5 := n0_; have HO413 := n1_; have BK393 := n2_; have BK394 := n3_; have HR410 := n4_; have HB := n5_; clear n0_ n1_ n2_ n3_ n4_ n5_
        (try clear hb)
        (try clear hb2)
        (try clear hk)
        (try clear hi)
        refine hK.out _ _ ⟨(blk_cell BK393.out 0).trans rfl, (blk_cell BK393.out 1).trans rfl⟩ (fun hHeld => ?_)
        clear hK K
        refine norm_ (a' := ?_) ?_ ?_
        rotate_left
        ·show Act.put _ (some 44) _ = _
         simp only [Act.put, List.setIfInBounds_toArray, List.set_cons_zero, List.set_cons_succ, i64_w, i32_w]; rfl
        refine pure_ (i := 7) (N := some 8) (v := ?_) (a' := ?_) #[true,true,true,true,true,true,true,true] rfl rfl (any_of HT_.out (by kernel_rfl)) (fun _ _ _ h => h) (Or.inl ⟨by rfl, ?_⟩) ?_ ?_
        rotate_left
        ·intro w'
         go_simp; with_reducible rfl
        rotate_left
        ·simp only [Act.put, List.setIfInBounds_toArray, List.set_cons_zero, List.set_cons_succ, i64_w, i32_w]
         rfl
        refine done_ (done_of HT_.out (by kernel_rfl)) ?_
        have q58 : (x6_1 : Int) ≤ ((y402.length : Int) : Int) := ode; obtain ⟨i058, hi058, _, hsz58, _⟩ := info_parts info2; have hroom58 : y402.length ≤ co52 := (Kd.R_reads' HO_5.out).2.1; have hC58 : Kd.C (Kd.int .i64) _ Ao52 y402.length y402 := (Kd.R_reads' HO_5.out).2.2; have q058 : (0 : Int) ≤ (x6_1 : Int) := ode; have hcut58 := cut_from (P := Tryd.prog) 28 2 .i64 Tryd.underlying28 hi058 1 hsz58 Ao52 y402.length co52 x6_1 q058 q58
        have hr58 := Kd.C_drop (m := (x6_1 : Int).toNat) (c := co52) hC58 (by omega) hroom58
        obtain ⟨A58, hA58⟩ : ∃ A1, A1 = (if co52 = (x6_1 : Int).toNat then Ao52 else (Ao52 : Option Addr).map (·.add ((x6_1 : Int).toNat * 1))) := ⟨_, rfl⟩; obtain ⟨c58, hc58⟩ : ∃ c1, c1 = co52 - (x6_1 : Int).toNat := ⟨_, rfl⟩
        have hy58 : y415.length = y402.length - (x6_1 : Int).toNat := (by rw [Ny415.out, List.length_drop] <;> omega)
        rw [show (y402).drop (x6_1 : Int).toNat = y415 from Ny415.out.symm] at hr58
        replace hr58 : Kd.C (Kd.int .i64) _ A58 y415.length y415 := (by rw [hA58]; exact hr58)
        rw [← hy58, ← hA58, ← hc58] at hcut58; have HR418 := Aside0.mk hr58
        have HC418 := Aside0.mk (show y415.length ≤ c58 from by rw [hy58, hc58]; exact Nat.sub_le_sub_right hroom58 _)
        clear hr58 hC58 hroom58 hi058 hsz58 hc58; have KY58 := Aside0.mk hy58; have KA58 := Aside0.mk hA58; clear hy58 hA58
        have KL58 := Aside0.mk (show (x6_1 : Int).toNat ≤ y402.length from by omega)
        replace q58 := eq_true q58
        try go_wp2_with (first | (go_at_call 95; (with_reducible refine (W_spec_l01Text.calls _ _ y415 t419 _ ?side1 ?side2 A39.out).mono ?_); (case side1 => repeat (first | exact (by repeat (first | (with_reducible exact HR418.out) | (with_reducible refine Kd.C_alloc ?_ _) | (with_reducible refine Kd.C_drewN ?_ _) | (with_reducible refine Kd.C_drew ?_) | exact HR418.out)) | (with_reducible refine Kd.C_alloc ?_ _) | (with_reducible refine Kd.C_drewN ?_ _) | (with_reducible refine Kd.C_drew ?_))); (case side2 => exact HC418.out); rintro e w59 ⟨rfl, hb⟩; have n0_ := rbb HO_5.out hb; have n1_ := rbb HO413.out hb; have n2_ := bkb BK393.out hb; have n3_ := bkb BK394.out hb; have n4_ := cbb HR410.out hb; have n5_ := cbb HR418.out hb; have n6_ := Aside0.mk (below_step (belowG) hb); replace HO_5 := n0_; replace HO413 := n1_; replace BK393 := n2_; replace BK394 := n3_; replace HR410 := n4_; replace HR418 := n5_; replace HB := n6_; clear n0_ n1_ n2_ n3_ n4_ n5_ n6_; clear hb; have hnb60 := NB394_393.out; have hnc60 := NB393_394.out; have hcz61_0 : w59.cell? ⟨gb394, 0, none⟩ = some (.int .i64 0) := (blk_cell BK394.out 0).trans rfl; have hcz61_1 : w59.cell? ⟨gb394, 1, none⟩ = some (.int .i64 0) := (blk_cell BK394.out 1).trans rfl; have hcz61_2 : w59.cell? ⟨gb394, 2, none⟩ = some (.string (⟨#[]⟩ : ByteArray)) := (blk_cell BK394.out 2).trans rfl; have hcz61_3 : w59.cell? ⟨gb394, 3, none⟩ = some (.string (⟨#[]⟩ : ByteArray)) := (blk_cell BK394.out 3).trans rfl; have hfz61_0 := blk_frozen BK394.out 0; have hfz61_1 := blk_frozen BK394.out 1; have hfz61_2 := blk_frozen BK394.out 2; have hfz61_3 := blk_frozen BK394.out 3))
        refine bodyPost_ret (results_cell_row rfl _ _ gb394 32 #[.int .i64 8, .int .i64 0, .string (⟨#[]⟩ : ByteArray), .string (⟨#[]⟩ : ByteArray)] (0, 0) _ rfl (by (with_reducible repeat (first | refine blk_drewN ?_ _ | refine blk_drew ?_ | refine blk_alloc ?_ _)); refine blk_put (cs := #[.int .i64 8, .int .i64 0, .string (⟨#[]⟩ : ByteArray), .string (⟨#[]⟩ : ByteArray)]) ?_ 3 _ rfl; (with_reducible repeat (first | refine blk_drewN ?_ _ | refine blk_drew ?_ | refine blk_alloc ?_ _)); refine blk_put (cs := #[.int .i64 8, .int .i64 0, .string (⟨#[]⟩ : ByteArray), .string (⟨#[]⟩ : ByteArray)]) ?_ 2 _ rfl; (with_reducible repeat (first | refine blk_drewN ?_ _ | refine blk_drew ?_ | refine blk_alloc ?_ _)); refine blk_put (cs := #[.int .i64 8, .int .i64 0, .string (⟨#[]⟩ : ByteArray), .string (⟨#[]⟩ : ByteArray)]) ?_ 1 _ rfl; (with_reducible repeat (first | refine blk_drewN ?_ _ | refine blk_drew ?_ | refine blk_alloc ?_ _)); refine blk_put (cs := #[.int .i64 0, .int .i64 0, .string (⟨#[]⟩ : ByteArray), .string (⟨#[]⟩ : ByteArray)]) ?_ 0 _ rfl; (with_reducible repeat (first | refine blk_drewN ?_ _ | refine blk_drew ?_ | refine blk_alloc ?_ _)); exact BK394.out) Tryd.underlying32 rfl (by kernel_rfl)) rfl ?_
        exact ⟨by first | rfl | (simp [errW_none, errW_some] <;> rfl) | (simp [*, errW_none, errW_some] <;> rfl), belowG⟩
       rw [if_neg c51] at H; have c51b0 : decide (1000 < (t419.size : Int)) = false := decide_eq_false c51
       have c51b1 : decide (1000 < t419.size) = false := decide_eq_false (by omega)
       clear c51; simp only [Option.some.injEq, Prod.mk.injEq] at H; obtain ⟨rfl, rfl, rfl, rfl⟩ := H; obtain ⟨Ao62, co62, eo62⟩ := Kd.R_slice HO_5.out; subst eo62
       try go_wp2
       have n0_ := Aside0.mk (Kd.R_drew HO_5.out); have n1_ := Aside0.mk (blk_drew BK393.out); have n2_ := Aside0.mk (blk_drew BK394.out); have n3_ := Aside0.mk (below_drew1 HB.out); clear HO_5; clear BK393; clear BK394; clear HB; have HO_5 := n0_; have BK393 := n1_; have BK394 := n2_; have HB := n3_; clear n0_ n1_ n2_ n3_; have q64 : (x6_1 : Int) ≤ ((y402.length : Int) : Int) := ode; obtain ⟨i064, hi064, _, hsz64, _⟩ := info_parts info2; have hroom64 : y402.length ≤ co62 := (Kd.R_reads' HO_5.out).2.1; have hC64 : Kd.C (Kd.int .i64) _ Ao62 y402.length y402 := (Kd.R_reads' HO_5.out).2.2; have hcut64 := cut_to (P := Tryd.prog) 28 2 .i64 Tryd.underlying28 hi064 Ao62 y402.length co62 x6_1 (ode) q64 hroom64
       have hr64 := Kd.C_take (m := (x6_1 : Int).toNat) hC64 (by omega)
       have hy64 : y407.length = (x6_1 : Int).toNat := (by rw [Ny407.out, List.length_take]; omega)
       rw [← Ny407.out] at hr64; rw [← hy64] at hcut64; have HR410 := Aside0.mk hr64
       have HC410 := Aside0.mk (show y407.length ≤ co62 from by omega)
       clear hr64 hC64 hroom64 hi064 hsz64; have KY64 := Aside0.mk hy64; clear hy64
       have KL64 := Aside0.mk (show (x6_1 : Int).toNat ≤ y402.length from by omega)
       replace q64 := eq_true q64
       refine start_ (n := 8) (S := fun w' => w'.cell? ⟨gb393, 0, none⟩ = some (.int .i64 a0_0) ∧ w'.cell? ⟨gb393, 1, none⟩ = some (.string a0_1)) (ds := []) #[false,false,false,false,false,false,false,false] (by kernel_rfl) rfl rfl ⟨(blk_cell BK393.out 0).trans rfl, (blk_cell BK393.out 1).trans rfl⟩ (fun hHeld => ?_); refine with_tabW spec_FeedNormer.tab12 spec_FeedNormer.bits12 (fun HT_ HW_ => ?_)
       generalize wr.drew = w63 at HO_5 BK393 BK394 HB HR410 hHeld ⊢
       refine pure_ (i := 0) (N := some 38) (v := ?_) (a' := ?_) #[true,false,false,false,false,false,false,false] rfl rfl (any_of HT_.out (by kernel_rfl)) (fun _ _ _ h => h) (Or.inl ⟨by rfl, ?_⟩) ?_ ?_
       rotate_left
       ·intro w'
        go_simp; with_reducible rfl
       rotate_left
       ·simp only [Act.put, List.setIfInBounds_toArray, List.set_cons_zero, List.set_cons_succ, i64_w, i32_w]
        rfl
       refine pure_ (i := 2) (N := some 40) (v := ?_) (a' := ?_) #[true,false,true,false,false,false,false,false] rfl rfl (any_of HT_.out (by kernel_rfl)) (fun _ _ _ h => h) (Or.inl ⟨by rfl, ?_⟩) ?_ ?_
       rotate_left
       ·intro w'
        go_simp; with_reducible rfl
       rotate_left
       ·simp only [Act.put, List.setIfInBounds_toArray, List.set_cons_zero, List.set_cons_succ, i64_w, i32_w]
        rfl
       refine pure_ (i := 3) (N := some 41) (v := ?_) (a' := ?_) #[true,false,true,true,false,false,false,false] rfl rfl (any_of HT_.out (by kernel_rfl)) (fun _ _ _ h => h) (Or.inl ⟨by rfl, ?_⟩) ?_ ?_
       rotate_left
       ·intro w'
        go_simp; with_reducible rfl
       rotate_left
       ·simp only [Act.put, List.setIfInBounds_toArray, List.set_cons_zero, List.set_cons_succ, i64_w, i32_w]
        rfl
       refine pure_ (i := 4) (N := some 42) (v := ?_) (a' := ?_) #[true,false,true,true,true,false,false,false] rfl rfl (any_of HT_.out (by kernel_rfl)) (fun _ _ _ h => h) (Or.inl ⟨by rfl, ?_⟩) ?_ ?_
       rotate_left
       ·intro w'
        go_simp; with_reducible rfl
       rotate_left
       ·simp only [Act.put, List.setIfInBounds_toArray, List.set_cons_zero, List.set_cons_succ, i64_w, i32_w]
        rfl
       refine take_ (i := 1) (N := some 39) (v := ?_) (a' := ?_) #[true,true,true,true,true,false,false,false] rfl rfl (take_ofW HT_.out HW_.out (by kernel_rfl)) (fun _ _ _ h => h) (Or.inl ⟨by rfl, ?_⟩) hHeld ?_ ?_
       rotate_left
       ·rintro w' ⟨s0, s1⟩
        go_simp; with_reducible rfl
       rotate_left
       ·simp only [Act.put, List.setIfInBounds_toArray, List.set_cons_zero, List.set_cons_succ, i64_w, i32_w]
        rfl
       refine one_ (i := 5) (N := some 43) #[true,true,true,true,true,true,false,false] rfl rfl (one_of HT_.out (by kernel_rfl)) (by decide) (fun K hK => ?_)
       refine goes_ Tryd.func98 (by kernel_rfl) rfl #[.int .i64 a0_0, .slice Ao62 y407.length co62] (by rfl) rfl rfl (by (try simp only [List.map_toArray, List.map_cons, List.map_nil]); first | done | rfl | (simp only [List.length_drop, List.length_take]; rfl)) ?_
       with_reducible refine (W_spec_l05Norm.calls a0_0 _ _ y407 t411 _ ?side1 ?side2 A35.out).mono ?_
       (case side1 => repeat (first | exact (by repeat (first | (with_reducible exact HR410.out) | (with_reducible refine Kd.C_alloc ?_ _) | (with_reducible refine Kd.C_drewN ?_ _) | (with_reducible refine Kd.C_drew ?_) | exact HR410.out)) | (with_reducible refine Kd.C_alloc ?_ _) | (with_reducible refine Kd.C_drewN ?_ _) | (with_reducible refine Kd.C_drew ?_)))
       (case side2 => exact HC410.out)
       rintro e w65 ⟨v412, rfl, ho0, hb⟩; refine ⟨_, rfl, ?_⟩
       have n0_ := Aside0.mk (Kd.R_elder' (by (with_reducible repeat (first | apply Kd.R_alloc | apply Kd.R_drewN | apply Kd.R_drew)); exact HO_5.out) (Kd.R_base ho0) hb)
       have n1_ := Aside0.mk (Kd.R_lower (Kd.R_new' ho0 (Kd.R_lt (by (with_reducible repeat (first | apply Kd.R_alloc | apply Kd.R_drewN | apply Kd.R_drew)); exact HO_5.out))) (below_size (belowG)))
       have n2_ := bkb BK393.out hb; have n3_ := bkb BK394.out hb; have n4_ := cbb HR410.out hb; have n5_ := Aside0.mk (below_step (belowG) hb); clear HO_5; clear BK393; clear BK394; clear HR410; clear HB; have HO_5 := n0_; have HO413 := n1_; have BK393 := n2_; have BK394 := n3_; have HR410 := n4_; have HB := n5_; clear n0_ n1_ n2_ n3_ n4_ n5_
       (try clear hb)
       (try clear hb2)
       (try clear hk)
       (try clear hi)
       (try clear ho0)
       obtain ⟨Ao66, co66, eo66⟩ := Kd.R_slice HO413.out
       (first | subst eo66 | (injection eo66 with f1_ f2_ f3_; have f4_ := f1_.symm; have f5_ := f3_.symm; clear f1_ f2_ f3_; subst f4_; subst f5_))
       refine hK.out _ _ ⟨(blk_cell BK393.out 0).trans rfl, (blk_cell BK393.out 1).trans rfl⟩ (fun hHeld => ?_)
       clear hK K
       refine norm_ (a' := ?_) ?_ ?_
       rotate_left
       ·show Act.put _ (some 43) _ = _
        simp only [Act.put, List.setIfInBounds_toArray, List.set_cons_zero, List.set_cons_succ, i64_w, i32_w]; rfl
       refine one_ (i := 6) (N := some 44) #[true,true,true,true,true,true,true,false] rfl rfl (one_of HT_.out (by kernel_rfl)) (by decide) (fun K hK => ?_)
       refine goes_ Tryd.func95 (by kernel_rfl) rfl #[.slice Ao66 t411.length co66] (by rfl) rfl rfl (by (try simp only [List.map_toArray, List.map_cons, List.map_nil]); first | done | rfl | (simp only [List.length_drop, List.length_take]; rfl)) ?_
       with_reducible refine (W_spec_l01Text.calls _ _ t411 t414 _ ?side1 ?side2 A36.out).mono ?_
       (case side1 => repeat (first | exact (Kd.R_reads' HO413.out).2.2 | (with_reducible refine Kd.C_alloc ?_ _) | (with_reducible refine Kd.C_drewN ?_ _) | (with_reducible refine Kd.C_drew ?_)))
       (case side2 => exact (Kd.R_reads' HO413.out).2.1)
       rintro e w67 ⟨rfl, hb⟩; refine ⟨_, rfl, ?_⟩; have n0_ := rbb HO_5.out hb; have n1_ := rbb HO413.out hb; have n2_ := bkb BK393.out hb; have n3_ := bkb BK394.out hb; have n4_ := cbb HR410.out hb; have n5_ := Aside0.mk (below_step (belowG) hb); clear HO_5; clear HO413; clear BK393; clear BK394; clear HR410; clear HB; have HO_5 := n0_; have HO413 := n1_; have BK393 := n2_; have BK394 := n3_; have HR410 := n4_; have HB := n5_; clear n0_ n1_ n2_ n3_ n4_ n5_
       (try clear hb)
       (try clear hb2)
       (try clear hk)
       (try clear hi)
       refine hK.out _ _ ⟨(blk_cell BK393.out 0).trans rfl, (blk_cell BK393.out 1).trans rfl⟩ (fun hHeld => ?_)
       clear hK K
       refine norm_ (a' := ?_) ?_ ?_
       rotate_left
       ·show Act.put _ (some 44) _ = _
        simp only [Act.put, List.setIfInBounds_toArray, List.set_cons_zero, List.set_cons_succ, i64_w, i32_w]; rfl
       refine pure_ (i := 7) (N := some 8) (v := ?_) (a' := ?_) #[true,true,true,true,true,true,true,true] rfl rfl (any_of HT_.out (by kernel_rfl)) (fun _ _ _ h => h) (Or.inl ⟨by rfl, ?_⟩) ?_ ?_
       rotate_left
       ·intro w'
        go_simp; with_reducible rfl
       rotate_left
       ·simp only [Act.put, List.setIfInBounds_toArray, List.set_cons_zero, List.set_cons_succ, i64_w, i32_w]
        rfl
       refine done_ (done_of HT_.out (by kernel_rfl)) ?_
       have q68 : (x6_1 : Int) ≤ ((y402.length : Int) : Int) := ode; obtain ⟨i068, hi068, _, hsz68, _⟩ := info_parts info2; have hroom68 : y402.length ≤ co62 := (Kd.R_reads' HO_5.out).2.1; have hC68 : Kd.C (Kd.int .i64) _ Ao62 y402.length y402 := (Kd.R_reads' HO_5.out).2.2; have q068 : (0 : Int) ≤ (x6_1 : Int) := ode; have hcut68 := cut_from (P := Tryd.prog) 28 2 .i64 Tryd.underlying28 hi068 1 hsz68 Ao62 y402.length co62 x6_1 q068 q68
       have hr68 := Kd.C_drop (m := (x6_1 : Int).toNat) (c := co62) hC68 (by omega) hroom68
       obtain ⟨A68, hA68⟩ : ∃ A1, A1 = (if co62 = (x6_1 : Int).toNat then Ao62 else (Ao62 : Option Addr).map (·.add ((x6_1 : Int).toNat * 1))) := ⟨_, rfl⟩; obtain ⟨c68, hc68⟩ : ∃ c1, c1 = co62 - (x6_1 : Int).toNat := ⟨_, rfl⟩
       have hy68 : y415.length = y402.length - (x6_1 : Int).toNat := (by rw [Ny415.out, List.length_drop] <;> omega)
       rw [show (y402).drop (x6_1 : Int).toNat = y415 from Ny415.out.symm] at hr68
       replace hr68 : Kd.C (Kd.int .i64) _ A68 y415.length y415 := (by rw [hA68]; exact hr68)
       rw [← hy68, ← hA68, ← hc68] at hcut68; have HR418 := Aside0.mk hr68
       have HC418 := Aside0.mk (show y415.length ≤ c68 from by rw [hy68, hc68]; exact Nat.sub_le_sub_right hroom68 _)
       clear hr68 hC68 hroom68 hi068 hsz68 hc68; have KY68 := Aside0.mk hy68; have KA68 := Aside0.mk hA68; clear hy68 hA68
       have KL68 := Aside0.mk (show (x6_1 : Int).toNat ≤ y402.length from by omega)
       replace q68 := eq_true q68
       try go_wp2_with (first | (go_at_call 95; (with_reducible refine (W_spec_l01Text.calls _ _ y415 t419 _ ?side1 ?side2 A39.out).mono ?_); (case side1 => repeat (first | exact (by repeat (first | (with_reducible exact HR418.out) | (with_reducible refine Kd.C_alloc ?_ _) | (with_reducible refine Kd.C_drewN ?_ _) | (with_reducible refine Kd.C_drew ?_) | exact HR418.out)) | (with_reducible refine Kd.C_alloc ?_ _) | (with_reducible refine Kd.C_drewN ?_ _) | (with_reducible refine Kd.C_drew ?_))); (case side2 => exact HC418.out); rintro e w69 ⟨rfl, hb⟩; have n0_ := rbb HO_5.out hb; have n1_ := rbb HO413.out hb; have n2_ := bkb BK393.out hb; have n3_ := bkb BK394.out hb; have n4_ := cbb HR410.out hb; have n5_ := cbb HR418.out hb; have n6_ := Aside0.mk (below_step (belowG) hb); replace HO_5 := n0_; replace HO413 := n1_; replace BK393 := n2_; replace BK394 := n3_; replace HR410 := n4_; replace HR418 := n5_; replace HB := n6_; clear n0_ n1_ n2_ n3_ n4_ n5_ n6_; clear hb; have hnb70 := NB393_394.out; have hnc70 := NB394_393.out; have hcz71_0 : w69.cell? ⟨gb393, 0, none⟩ = some (.int .i64 a0_0) := (blk_cell BK393.out 0).trans rfl; have hcz71_1 : w69.cell? ⟨gb393, 1, none⟩ = some (.string a0_1) := (blk_cell BK393.out 1).trans rfl; have hfz71_0 := blk_frozen BK393.out 0; have hfz71_1 := blk_frozen BK393.out 1; have hcz72_0 : w69.cell? ⟨gb394, 0, none⟩ = some (.int .i64 0) := (blk_cell BK394.out 0).trans rfl; have hcz72_1 : w69.cell? ⟨gb394, 1, none⟩ = some (.int .i64 0) := (blk_cell BK394.out 1).trans rfl; have hcz72_2 : w69.cell? ⟨gb394, 2, none⟩ = some (.string (⟨#[]⟩ : ByteArray)) := (blk_cell BK394.out 2).trans rfl; have hcz72_3 : w69.cell? ⟨gb394, 3, none⟩ = some (.string (⟨#[]⟩ : ByteArray)) := (blk_cell BK394.out 3).trans rfl; have hfz72_0 := blk_frozen BK394.out 0; have hfz72_1 := blk_frozen BK394.out 1; have hfz72_2 := blk_frozen BK394.out 2; have hfz72_3 := blk_frozen BK394.out 3))
       refine bodyPost_ret (results_cell_row rfl _ _ gb394 32 #[.int .i64 0, .int .i64 a0_0, .string t419, .string t414] (0, 0) _ rfl (by (with_reducible repeat (first | refine blk_drewN ?_ _ | refine blk_drew ?_ | refine blk_alloc ?_ _)); refine blk_put (cs := #[.int .i64 0, .int .i64 a0_0, .string t419, .string (⟨#[]⟩ : ByteArray)]) ?_ 3 _ rfl; (with_reducible repeat (first | refine blk_drewN ?_ _ | refine blk_drew ?_ | refine blk_alloc ?_ _)); refine blk_put (cs := #[.int .i64 0, .int .i64 a0_0, .string (⟨#[]⟩ : ByteArray), .string (⟨#[]⟩ : ByteArray)]) ?_ 2 _ rfl; (with_reducible repeat (first | refine blk_drewN ?_ _ | refine blk_drew ?_ | refine blk_alloc ?_ _)); refine blk_put (cs := #[.int .i64 0, .int .i64 0, .string (⟨#[]⟩ : ByteArray), .string (⟨#[]⟩ : ByteArray)]) ?_ 1 _ rfl; (with_reducible repeat (first | refine blk_drewN ?_ _ | refine blk_drew ?_ | refine blk_alloc ?_ _)); refine blk_put (cs := #[.int .i64 0, .int .i64 0, .string (⟨#[]⟩ : ByteArray), .string (⟨#[]⟩ : ByteArray)]) ?_ 0 _ rfl; (with_reducible repeat (first | refine blk_drewN ?_ _ | refine blk_drew ?_ | refine blk_alloc ?_ _)); exact BK394.out) Tryd.underlying32 rfl (by kernel_rfl)) rfl ?_
       exact ⟨by first | rfl | (simp [errW_none, errW_some] <;> rfl) | (simp [*, errW_none, errW_some] <;> rfl), belowG⟩
      rw [if_neg c34] at H
      exact absurd H (by simp)
     rw [if_neg c33] at H
     exact absurd H (by simp)
  rw [if_neg c12] at H
  exact absurd H (by simp)
 rw [if_neg c9] at H
 have c9b0 : (t395 == 0) = false := beq_eq_false_iff_ne.mpr c9
 have c9b1 : (t395 != 0) = true := bne_iff_ne.mpr c9
 simp only [Option.some.injEq, Prod.mk.injEq] at H
 obtain ⟨rfl, rfl, rfl, rfl⟩ := H
 go_enter Tryd.func21, Tryd.ntmps21
 go_wp2_with (first | ((with_reducible refine gate_dst (N := 2) rfl ?_); refine box_event ?hg (N := 2) ?hd (cs := #[.int .i64 a0_0, .string a0_1]) (t := 27) ?hr ?_; (case hd => rfl); (case hg => rfl); (case hr => first | (go_simp; done) | (go_simp; rfl)); intro gb393 hg w73 hbox hb; have n0_ := Aside0.mk (below_step (belowA) hb); have n1_ := Aside0.mk (hbox); have n2_ := Aside0.mk ((by rw [hg]; exact (below_size (belowA)) : w.heap.size ≤ gb393)); have n3_ := Aside0.mk ((by rw [hg]; exact (below_size (belowA)) : w.heap.size ≤ gb393)); replace HB := n0_; have BK393 := n1_; have GW393 := n2_; have GE393 := n3_; clear n0_ n1_ n2_ n3_; clear hb hbox hg) | ((with_reducible refine gate_dst (N := 4) rfl ?_); refine box_event ?hg (N := 4) ?hd (cs := #[.int .i64 0, .int .i64 0, .string (⟨#[]⟩ : ByteArray), .string (⟨#[]⟩ : ByteArray)]) (t := 32) ?hr ?_; (case hd => rfl); (case hg => rfl); (case hr => first | (go_simp; done) | (go_simp; rfl)); intro gb394 hg w74 hbox hb; have n0_ := bkb BK393.out hb; have n1_ := Aside0.mk (below_step (belowG) hb); have n2_ := Aside0.mk (hbox); have n3_ := Aside0.mk ((by rw [hg]; exact (below_size (belowG)) : w.heap.size ≤ gb394)); have n4_ := Aside0.mk ((by rw [hg]; exact (below_size (belowG)) : w.heap.size ≤ gb394)); have n5_ := Aside0.mk ((by rw [hg]; exact Nat.ne_of_lt (blk_lt (g := gb393) (o := .cells #[.int .i64 a0_0, .string a0_1] 27 (0, 0)) (by (with_reducible repeat (first | refine blk_drewN ?_ _ | refine blk_drew ?_ | refine blk_alloc ?_ _)); exact BK393.out)) : gb393 ≠ gb394)); have n6_ := Aside0.mk ((by rw [hg]; exact Nat.ne_of_gt (blk_lt (g := gb393) (o := .cells #[.int .i64 a0_0, .string a0_1] 27 (0, 0)) (by (with_reducible repeat (first | refine blk_drewN ?_ _ | refine blk_drew ?_ | refine blk_alloc ?_ _)); exact BK393.out)) : gb394 ≠ gb393)); replace BK393 := n0_; replace HB := n1_; have BK394 := n2_; have GW394 := n3_; have GE394 := n4_; have NB393_394 := n5_; have NB394_393 := n6_; clear n0_ n1_ n2_ n3_ n4_ n5_ n6_; clear hb hbox hg; have hnb75 := NB393_394.out; have hnc75 := NB394_393.out; have hcz76_0 : w74.cell? ⟨gb393, 0, none⟩ = some (.int .i64 a0_0) := (blk_cell BK393.out 0).trans rfl; have hcz76_1 : w74.cell? ⟨gb393, 1, none⟩ = some (.string a0_1) := (blk_cell BK393.out 1).trans rfl; have hfz76_0 := blk_frozen BK393.out 0; have hfz76_1 := blk_frozen BK393.out 1) | (go_at_call 96; (with_reducible refine (W_spec_NormerFault.calls a0_0 a0_1 t395 _ A8.out).mono ?_); rintro e w77 ⟨rfl, hb⟩; have n0_ := bkb BK393.out hb; have n1_ := bkb BK394.out hb; have n2_ := Aside0.mk (below_step (belowG) hb); replace BK393 := n0_; replace BK394 := n1_; replace HB := n2_; clear n0_ n1_ n2_; clear hb; have hcz78_0 : w77.cell? ⟨gb394, 0, none⟩ = some (.int .i64 0) := (blk_cell BK394.out 0).trans rfl; have hcz78_1 : w77.cell? ⟨gb394, 1, none⟩ = some (.int .i64 0) := (blk_cell BK394.out 1).trans rfl; have hcz78_2 : w77.cell? ⟨gb394, 2, none⟩ = some (.string (⟨#[]⟩ : ByteArray)) := (blk_cell BK394.out 2).trans rfl; have hcz78_3 : w77.cell? ⟨gb394, 3, none⟩ = some (.string (⟨#[]⟩ : ByteArray)) := (blk_cell BK394.out 3).trans rfl; have hfz78_0 := blk_frozen BK394.out 0; have hfz78_1 := blk_frozen BK394.out 1; have hfz78_2 := blk_frozen BK394.out 2; have hfz78_3 := blk_frozen BK394.out 3))
 refine bodyPost_ret (results_cell_row rfl _ _ gb394 32 #[.int .i64 1, .int .i64 0, .string (⟨#[]⟩ : ByteArray), .string (⟨#[]⟩ : ByteArray)] (0, 0) _ rfl (by (with_reducible repeat (first | refine blk_drewN ?_ _ | refine blk_drew ?_ | refine blk_alloc ?_ _)); refine blk_put (cs := #[.int .i64 1, .int .i64 0, .string (⟨#[]⟩ : ByteArray), .string (⟨#[]⟩ : ByteArray)]) ?_ 3 _ rfl; (with_reducible repeat (first | refine blk_drewN ?_ _ | refine blk_drew ?_ | refine blk_alloc ?_ _)); refine blk_put (cs := #[.int .i64 1, .int .i64 0, .string (⟨#[]⟩ : ByteArray), .string (⟨#[]⟩ : ByteArray)]) ?_ 2 _ rfl; (with_reducible repeat (first | refine blk_drewN ?_ _ | refine blk_drew ?_ | refine blk_alloc ?_ _)); refine blk_put (cs := #[.int .i64 1, .int .i64 0, .string (⟨#[]⟩ : ByteArray), .string (⟨#[]⟩ : ByteArray)]) ?_ 1 _ rfl; (with_reducible repeat (first | refine blk_drewN ?_ _ | refine blk_drew ?_ | refine blk_alloc ?_ _)); refine blk_put (cs := #[.int .i64 0, .int .i64 0, .string (⟨#[]⟩ : ByteArray), .string (⟨#[]⟩ : ByteArray)]) ?_ 0 _ rfl; (with_reducible repeat (first | refine blk_drewN ?_ _ | refine blk_drew ?_ | refine blk_alloc ?_ _)); exact BK394.out) Tryd.underlying32 rfl (by kernel_rfl)) rfl ?_
 exact ⟨by first | rfl | (simp [errW_none, errW_some] <;> rfl) | (simp [*, errW_none, errW_some] <;> rfl), belowG⟩

def W_spec_FeedNormer.f (f : Int) (h t : ByteArray) : Option (Int × Int × ByteArray × ByteArray) := if h.size ≤ 100000 ∧ t.size ≤ 100000 then some (YtiabgmddnddeiaaDoorNmr.FS f h t) else none
theorem spec_FeedNormer.run (f : Int) (hf : 1 ≤ f ∧ f ≤ 4) (h : ByteArray) (l : List Int) (hl : l.length ≤ 1000000) (hp : ∀ p ∈ l, 0 ≤ p ∧ p ≤ 1114111) (d : Nat) : ∀ (k i a : Nat), a ≤ l.length → i ≤ l.length → l.length - i = d → d < k →
    spec_FeedNormer.l0 k l (a : Int) (i : Int) f h = some (if ((YtiabgmddnddeiaaDoorNmr.S (YtiabgmddnddeiaaDoorNrm.nf f (l.take (YtiabgmddnddeiaaDoorNmr.cutF f (l.drop i) i a)))).size : Int) > 65536 then (2, 0, ⟨#[]⟩, ⟨#[]⟩) else if ((YtiabgmddnddeiaaDoorNmr.S (l.drop (YtiabgmddnddeiaaDoorNmr.cutF f (l.drop i) i a))).size : Int) > 1000 then (8, 0, ⟨#[]⟩, ⟨#[]⟩) else (0, f, YtiabgmddnddeiaaDoorNmr.S (l.drop (YtiabgmddnddeiaaDoorNmr.cutF f (l.drop i) i a)), YtiabgmddnddeiaaDoorNmr.S (YtiabgmddnddeiaaDoorNrm.nf f (l.take (YtiabgmddnddeiaaDoorNmr.cutF f (l.drop i) i a))))) := by
  induction d with
  | zero =>
    intro k i a h0 h1 h2 h3
    obtain ⟨k, rfl⟩ : ∃ m, k = m + 1 := ⟨k - 1, by omega⟩
    have hn := YtiabgmddnddeiaaDoorNst.nf_len f (l.take a)
    rw [List.length_take] at hn
    simp only [spec_FeedNormer.l0]
    rw [if_neg (by omega), if_pos (by omega), if_pos (by omega), List.drop_eq_nil_of_le (by omega : l.length ≤ i), Int.toNat_natCast]
    unfold W_spec_l05Norm.f
    rw [if_pos ⟨hf.1, hf.2, by rw [List.length_take]; omega, fun p hq => hp p (List.mem_of_mem_take hq)⟩]
    simp only [Option.bind_some]
    unfold W_spec_l01Text.f
    rw [if_pos (by omega), if_pos (by rw [List.length_drop]; omega)]
    simp only [Option.bind_some]
    by_cases c1 : ((strOfNums (YtiabgmddnddeiaaDoorPts.encs (YtiabgmddnddeiaaDoorNrm.nf f (l.take a)))).size : Int) > 65536
    · rw [if_pos c1]
      exact congrArg some (if_pos c1).symm
    · rw [if_neg c1]
      refine Eq.trans ?_ (congrArg some (if_neg c1).symm)
      by_cases c2 : ((strOfNums (YtiabgmddnddeiaaDoorPts.encs (l.drop a))).size : Int) > 1000
      · rw [if_pos c2]
        exact congrArg some (if_pos c2).symm
      · rw [if_neg c2]
        exact congrArg some (if_neg c2).symm
  | succ d ih =>
    intro k i a h0 h1 h2 h3
    obtain ⟨k, rfl⟩ : ∃ m, k = m + 1 := ⟨k - 1, by omega⟩
    have hlt : i < l.length := by omega
    have hr : rd l (i : Int) = l[i] := by simp [rd, List.getD, hlt]
    have hw : wrap64 ((i : Int) + 1) = ((i + 1 : Nat) : Int) := by unfold wrap64; omega
    have hpp := hp _ (List.getElem_mem hlt)
    simp only [spec_FeedNormer.l0]
    rw [if_pos (by omega), if_pos (by omega), hr, spec_l05Safe.eq hpp.1 hpp.2]
    simp only [Option.bind_some]
    rw [List.drop_eq_getElem_cons hlt, YtiabgmddnddeiaaDoorNmr.cutF, hw]
    by_cases g : YtiabgmddnddeiaaDoorNmr.sf f l[i] = true
    · rw [if_pos g, if_pos g, ih k (i + 1) i (by omega) (by omega) (by omega) (by omega)]
    · rw [if_neg g, if_neg g, ih k (i + 1) a (by omega) (by omega) (by omega) (by omega)]
theorem W_spec_FeedNormer.to {f : Int} {h t : ByteArray} {r : Int × Int × ByteArray × ByteArray} (e : W_spec_FeedNormer.f f h t = some r) : ∃ k, spec_FeedNormer.f k f h t = some r := by
  unfold W_spec_FeedNormer.f at e
  split at e
  · rename_i hs
    have l1 := YtiabgmddnddeiaaDoorNst.P_len h
    have l2 := YtiabgmddnddeiaaDoorNst.P_len t
    refine ⟨h.size + t.size + 4, ?_⟩
    rw [← e]
    unfold spec_FeedNormer.f YtiabgmddnddeiaaDoorNmr.FS
    by_cases c : (t.size : Int) > 65536
    · rw [if_pos c, if_pos c]
    · rw [if_neg c, if_neg c]
      unfold W_spec_NormerFault.f
      rw [if_pos (by omega)]
      simp only [Option.bind_some]
      by_cases g : YtiabgmddnddeiaaDoorNmr.NF f h = 0
      · rw [if_pos g, if_pos g]
        have hf : 1 ≤ f ∧ f ≤ 4 := by
          unfold YtiabgmddnddeiaaDoorNmr.NF at g
          split at g
          · rename_i z; exact of_decide_eq_true z.1
          · omega
        unfold W_spec_l01Points.f
        rw [if_pos (by omega), if_pos (by omega)]
        simp only [Option.bind_some]
        rw [show YtiabgmddnddeiaaDoorPts.pts (bytesOf h) = YtiabgmddnddeiaaDoorNst.P h from rfl, show YtiabgmddnddeiaaDoorPts.pts (bytesOf t) = YtiabgmddnddeiaaDoorNst.P t from rfl, if_pos (by omega)]
        have := spec_FeedNormer.run f hf h (YtiabgmddnddeiaaDoorNst.P h ++ YtiabgmddnddeiaaDoorNst.P t) (by rw [List.length_append]; omega) (fun p hp => by rcases List.mem_append.1 hp with z | z; exact YtiabgmddnddeiaaDoorNst.range (YtiabgmddnddeiaaDoorNst.P_isP h) p z; exact YtiabgmddnddeiaaDoorNst.range (YtiabgmddnddeiaaDoorNst.P_isP t) p z) _ (h.size + t.size + 4) 0 0 (by omega) (by omega) rfl (by rw [List.length_append]; omega)
        exact this
      · rw [if_neg g, if_neg g]
  · cases e
theorem W_spec_FeedNormer.calls (a0_0 : Int) (a0_1 : ByteArray) (a1 : ByteArray) (r1 : Int) (r2 : Int) (r3 : ByteArray) (r4 : ByteArray) (w : World) (h : W_spec_FeedNormer.f a0_0 a0_1 a1 = some (r1, r2, r3, r4)) :
    Calls Tryd.prog 21 #[.agg #[.int .i64 a0_0, .string a0_1], .string a1] w fun e w' => e = .returned (.agg #[.int .i64 r1, .int .i64 r2, .string r3, .string r4]) ∧ Below w.heap.size w w' := by
  obtain ⟨k, hk⟩ := W_spec_FeedNormer.to h
  exact spec_FeedNormer.calls k a0_0 a0_1 a1 r1 r2 r3 r4 w hk

end Go.Proofs.YtiabgmddnddeiaaDoor.QFnNormer
