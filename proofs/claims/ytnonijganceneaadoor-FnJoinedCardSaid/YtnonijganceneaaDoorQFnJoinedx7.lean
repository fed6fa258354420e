/- The law FnJoined: at every input the call answers true (this text: contracts on its way, by a program of this session's; no condition of ours). -/
import Derived.Test.YtnonijganceneaaDoorQFnJoinedx0
import Derived.Test.YtnonijganceneaaDoorQFnJoinedx3
import Derived.Test.YtnonijganceneaaDoorQFnJoinedx4
import Derived.Test.YtnonijganceneaaDoorQFnJoinedx5
import Derived.Test.YtnonijganceneaaDoorQFnJoinedx6
namespace Go.Proofs.YtnonijganceneaaDoor.QFnJoined
open Go.RowKit Go.Proofs.YtnonijganceneaaDoorW.PrintWords Go.Proofs.YtnonijganceneaaDoorW.PrintLast Go.Proofs.YtnonijganceneaaDoorW.PrintMore
attribute [local go_sem] max2_int min2_int max_two min_two max_three min_three max_four min_four   -- for this text's walks alone
set_option linter.unusedVariables false
set_option linter.unusedSimpArgs false

/-! ### spec_l01Src_shapeText: function 112 -/
mutual
def spec_l01Src_shapeText.l0 : Nat → List Int → Int → List Int → Int → Int → Int → Option (ByteArray × Int × Int × Int)
  | 0, _, _, _, _, _, _ => none
  | k + 1, x3, x4, x1000, x1001, x1002, x1003 => if x4 > 0 then ((spec_l01Src_n.f x1000 x1001 x1002 x1003 7).bind fun bt393 => (if bt393.1 = 0 then (spec_l01Src_shapeText.j1 k x3 x4 bt393.1 (bt393.1 == 0) x1000 bt393.2.1 bt393.2.2.1 bt393.2.2.2) else (spec_l01Src_shapeText.j1 k x3 x4 bt393.1 (bt393.1 == 1) x1000 bt393.2.1 bt393.2.2.1 bt393.2.2.2))) else ((W_spec_l01Text.f x3).bind fun t451 => ((spec_l01Src_one.f x1000 x1001 x1002 x1003 25).bind fun bt452 => (if bt452.1 = true then ((spec_l01Src_spoil.f k x1000 bt452.2.1 bt452.2.2.1 bt452.2.2.2 t451).bind fun bt456 => (spec_l01Src_shapeText.j2 k bt456.1 x1000 bt456.2.1 bt456.2.2.1 bt456.2.2.2)) else (spec_l01Src_shapeText.j2 k t451 x1000 bt452.2.1 bt452.2.2.1 bt452.2.2.2))))
def spec_l01Src_shapeText.j1 : Nat → List Int → Int → Int → Bool → List Int → Int → Int → Int → Option (ByteArray × Int × Int × Int)
  | 0, _, _, _, _, _, _, _, _ => none
  | k + 1, x3, x4, x19, x25, x1000, x1001, x1002, x1003 => if x25 = true then ((spec_l01Src_n.f x1000 x1001 x1002 x1003 8).bind fun bt397 => (if x3.length < 17592186044416 then (spec_l01Src_shapeText.l0 k (x3 ++ [wrap64 (1280 + bt397.1)]) (wrap64 (x4 - 1)) x1000 bt397.2.1 bt397.2.2.1 bt397.2.2.2) else (none))) else (if x19 = 2 then ((some (([1536, 1537, 1584, 1585, 1584] : List Int) : List Int)).bind fun y404 => ((spec_l01Src_n.f x1000 x1001 x1002 x1003 5).bind fun bt407 => (if 0 ≤ bt407.1 then (if bt407.1 < (y404.length : Int) then (if x3.length < 17592186044416 then (spec_l01Src_shapeText.l0 k (x3 ++ [rd y404 bt407.1]) (wrap64 (x4 - 1)) x1000 bt407.2.1 bt407.2.2.1 bt407.2.2.2) else (none)) else (none)) else (none)))) else (if x19 = 3 then ((some (([1568, 1569, 1570, 1536] : List Int) : List Int)).bind fun y415 => ((spec_l01Src_n.f x1000 x1001 x1002 x1003 4).bind fun bt418 => (if 0 ≤ bt418.1 then (if bt418.1 < (y415.length : Int) then (if x3.length < 17592186044416 then (spec_l01Src_shapeText.l0 k (x3 ++ [rd y415 bt418.1]) (wrap64 (x4 - 1)) x1000 bt418.2.1 bt418.2.2.1 bt418.2.2.2) else (none)) else (none)) else (none)))) else (if x19 = 4 then ((some (([4096, 7936, 7937, 32] : List Int) : List Int)).bind fun y426 => ((spec_l01Src_n.f x1000 x1001 x1002 x1003 4).bind fun bt429 => (if 0 ≤ bt429.1 then (if bt429.1 < (y426.length : Int) then (if x3.length < 17592186044416 then (spec_l01Src_shapeText.l0 k (x3 ++ [rd y426 bt429.1]) (wrap64 (x4 - 1)) x1000 bt429.2.1 bt429.2.2.1 bt429.2.2.2) else (none)) else (none)) else (none)))) else (if x19 = 5 then ((spec_l01Src_n.f x1000 x1001 x1002 x1003 3).bind fun bt437 => (if x3.length < 17592186044416 then (spec_l01Src_shapeText.l0 k (x3 ++ [wrap64 (97 + bt437.1)]) (wrap64 (x4 - 1)) x1000 bt437.2.1 bt437.2.2.1 bt437.2.2.2) else (none))) else ((spec_l01Src_point.f k x1000 x1001 x1002 x1003).bind fun bt444 => (if x3.length < 17592186044416 then (spec_l01Src_shapeText.l0 k (x3 ++ [bt444.1]) (wrap64 (x4 - 1)) x1000 bt444.2.1 bt444.2.2.1 bt444.2.2.2) else (none)))))))
def spec_l01Src_shapeText.j2 : Nat → ByteArray → List Int → Int → Int → Int → Option (ByteArray × Int × Int × Int)
  | 0, _, _, _, _, _ => none
  | k + 1, x5, x1000, x1001, x1002, x1003 => (spec_l01Src_one.f x1000 x1001 x1002 x1003 100).bind fun bt460 => (if bt460.1 = true then ((spec_l01Src_n.f x1000 bt460.2.1 bt460.2.2.1 bt460.2.2.2 3).bind fun bt464 => ((spec_l01Src_long.f k x1000 bt464.2.1 bt464.2.2.1 bt464.2.2.2 (⟨#[97, 98]⟩ : ByteArray) (wrap64 (999 + bt464.1))).bind fun bt468 => (some (bt468.1, bt468.2.1, bt468.2.2.1, bt468.2.2.2)))) else (some (x5, bt460.2.1, bt460.2.2.1, bt460.2.2.2)))
end
def spec_l01Src_shapeText.f (k : Nat) (s0_0 : List Int) (s0_1 : Int) (s0_2 : Int) (s0_3 : Int) : Option (ByteArray × Int × Int × Int) := (spec_l01Src_n.f s0_0 s0_1 s0_2 s0_3 (wrap64 (9 + s0_3))).bind fun bt389 => (spec_l01Src_shapeText.l0 k (([] : List Int)) bt389.1 s0_0 bt389.2.1 bt389.2.2.1 bt389.2.2.2)
theorem spec_l01Src_shapeText.mono_l : ∀ k, (∀ y0 y1 y2 y3 y4 y5, LeO (spec_l01Src_shapeText.l0 k y0 y1 y2 y3 y4 y5) (spec_l01Src_shapeText.l0 (k + 1) y0 y1 y2 y3 y4 y5)) ∧ (∀ y0 y1 y2 y3 y4 y5 y6 y7, LeO (spec_l01Src_shapeText.j1 k y0 y1 y2 y3 y4 y5 y6 y7) (spec_l01Src_shapeText.j1 (k + 1) y0 y1 y2 y3 y4 y5 y6 y7)) ∧ (∀ y0 y1 y2 y3 y4, LeO (spec_l01Src_shapeText.j2 k y0 y1 y2 y3 y4) (spec_l01Src_shapeText.j2 (k + 1) y0 y1 y2 y3 y4))
  | 0 => ⟨fun _ _ _ _ _ _ r h => by simp [spec_l01Src_shapeText.l0] at h, fun _ _ _ _ _ _ _ _ r h => by simp [spec_l01Src_shapeText.j1] at h, fun _ _ _ _ _ r h => by simp [spec_l01Src_shapeText.j2] at h⟩
  | k + 1 => by
    obtain ⟨ih0, ih1, ih2⟩ := spec_l01Src_shapeText.mono_l k
    refine ⟨?_, ?_, ?_⟩
    · intro y0 y1 y2 y3 y4 y5
      unfold spec_l01Src_shapeText.l0
      repeat' first
      | (with_reducible exact ih0 _ _ _ _ _ _)
      | (with_reducible exact ih1 _ _ _ _ _ _ _ _)
      | (with_reducible exact ih2 _ _ _ _ _)
      | (with_reducible exact spec_l01Src_long.mono _ _ _ _ _ _ _)
      | (with_reducible exact spec_l01Src_point.mono _ _ _ _ _)
      | (with_reducible exact spec_l01Src_spoil.mono _ _ _ _ _ _)
      | (with_reducible exact LeO.refl _)
      | (with_reducible exact LeO.none _)
      | (with_reducible refine LeO.ite ?_ ?_)
      | (with_reducible refine LeO.bind ?_ (fun _ => ?_))
      | exact ih0 _ _ _ _ _ _
      | exact ih1 _ _ _ _ _ _ _ _
      | exact ih2 _ _ _ _ _
      | exact spec_l01Src_long.mono _ _ _ _ _ _ _
      | exact spec_l01Src_point.mono _ _ _ _ _
      | exact spec_l01Src_spoil.mono _ _ _ _ _ _
      | exact LeO.none _
      | refine LeO.ite ?_ ?_
      | refine LeO.bind ?_ (fun _ => ?_)
    · intro y0 y1 y2 y3 y4 y5 y6 y7
      unfold spec_l01Src_shapeText.j1
      repeat' first
      | (with_reducible exact ih0 _ _ _ _ _ _)
      | (with_reducible exact ih1 _ _ _ _ _ _ _ _)
      | (with_reducible exact ih2 _ _ _ _ _)
      | (with_reducible exact spec_l01Src_long.mono _ _ _ _ _ _ _)
      | (with_reducible exact spec_l01Src_point.mono _ _ _ _ _)
      | (with_reducible exact spec_l01Src_spoil.mono _ _ _ _ _ _)
      | (with_reducible exact LeO.refl _)
      | (with_reducible exact LeO.none _)
      | (with_reducible refine LeO.ite ?_ ?_)
      | (with_reducible refine LeO.bind ?_ (fun _ => ?_))
      | exact ih0 _ _ _ _ _ _
      | exact ih1 _ _ _ _ _ _ _ _
      | exact ih2 _ _ _ _ _
      | exact spec_l01Src_long.mono _ _ _ _ _ _ _
      | exact spec_l01Src_point.mono _ _ _ _ _
      | exact spec_l01Src_spoil.mono _ _ _ _ _ _
      | exact LeO.none _
      | refine LeO.ite ?_ ?_
      | refine LeO.bind ?_ (fun _ => ?_)
    · intro y0 y1 y2 y3 y4
      unfold spec_l01Src_shapeText.j2
      repeat' first
      | (with_reducible exact ih0 _ _ _ _ _ _)
      | (with_reducible exact ih1 _ _ _ _ _ _ _ _)
      | (with_reducible exact ih2 _ _ _ _ _)
      | (with_reducible exact spec_l01Src_long.mono _ _ _ _ _ _ _)
      | (with_reducible exact spec_l01Src_point.mono _ _ _ _ _)
      | (with_reducible exact spec_l01Src_spoil.mono _ _ _ _ _ _)
      | (with_reducible exact LeO.refl _)
      | (with_reducible exact LeO.none _)
      | (with_reducible refine LeO.ite ?_ ?_)
      | (with_reducible refine LeO.bind ?_ (fun _ => ?_))
      | exact ih0 _ _ _ _ _ _
      | exact ih1 _ _ _ _ _ _ _ _
      | exact ih2 _ _ _ _ _
      | exact spec_l01Src_long.mono _ _ _ _ _ _ _
      | exact spec_l01Src_point.mono _ _ _ _ _
      | exact spec_l01Src_spoil.mono _ _ _ _ _ _
      | exact LeO.none _
      | refine LeO.ite ?_ ?_
      | refine LeO.bind ?_ (fun _ => ?_)
theorem spec_l01Src_shapeText.mono : ∀ a0 a1 a2 a3 k, LeO (spec_l01Src_shapeText.f k a0 a1 a2 a3) (spec_l01Src_shapeText.f (k + 1) a0 a1 a2 a3) := by
  intro a0 a1 a2 a3 k
  obtain ⟨ih0, ih1, ih2⟩ := spec_l01Src_shapeText.mono_l k
  unfold spec_l01Src_shapeText.f
  repeat' first
      | (with_reducible exact ih0 _ _ _ _ _ _)
      | (with_reducible exact ih1 _ _ _ _ _ _ _ _)
      | (with_reducible exact ih2 _ _ _ _ _)
      | (with_reducible exact spec_l01Src_long.mono _ _ _ _ _ _ _)
      | (with_reducible exact spec_l01Src_point.mono _ _ _ _ _)
      | (with_reducible exact spec_l01Src_spoil.mono _ _ _ _ _ _)
      | (with_reducible exact LeO.refl _)
      | (with_reducible exact LeO.none _)
      | (with_reducible refine LeO.ite ?_ ?_)
      | (with_reducible refine LeO.bind ?_ (fun _ => ?_))
      | exact ih0 _ _ _ _ _ _
      | exact ih1 _ _ _ _ _ _ _ _
      | exact ih2 _ _ _ _ _
      | exact spec_l01Src_long.mono _ _ _ _ _ _ _
      | exact spec_l01Src_point.mono _ _ _ _ _
      | exact spec_l01Src_spoil.mono _ _ _ _ _ _
      | exact LeO.none _
      | refine LeO.ite ?_ ?_
      | refine LeO.bind ?_ (fun _ => ?_)
set_option maxHeartbeats 8000000 in
set_option maxRecDepth 100000 in
theorem spec_l01Src_shapeText.calls (k : Nat) (g : Nat) (s0_0 : List Int) (s0_1 : Int) (s0_2 : Int) (s0_3 : Int) (r1 : ByteArray) (r2 : Int) (r3 : Int) (r4 : Int) (w0 w : World) (hI : IsS145 w0 w g s0_0 s0_1 s0_2 s0_3) (hB : Below w0.heap.size w0 w) (h : spec_l01Src_shapeText.f k s0_0 s0_1 s0_2 s0_3 = some (r1, r2, r3, r4)) :
    Calls Tryd.prog 112 #[.pointer (some ⟨g, 0, none⟩)] w fun e w' => e = .returned (.string r1) ∧ IsS145 w0 w' g s0_0 r2 r3 r4 ∧ Below w0.heap.size w0 w' ∧ KeepBut w w' g none := by
  have HI0 := Aside0.mk hI
  have HK := Aside0.mk (KeepBut.refl w g none)
  have HL := Aside0.mk hB.size
  clear hI
  have HW0 := Aside0.mk hB.size
  have HB := Aside0.mk hB
  clear hB
  have H : ((spec_l01Src_n.f s0_0 s0_1 s0_2 s0_3 (wrap64 (9 + s0_3))).bind fun bt389 => (spec_l01Src_shapeText.l0 k (([] : List Int)) bt389.1 s0_0 bt389.2.1 bt389.2.2.1 bt389.2.2.2)) = some (r1, r2, r3, r4) := h
  clear h
  obtain ⟨y386, hy386⟩ : ∃ y_ : List Int, y_ = (([] : List Int)) := ⟨_, rfl⟩
  replace H : ((spec_l01Src_n.f s0_0 s0_1 s0_2 s0_3 (wrap64 (9 + s0_3))).bind fun bt389 => (spec_l01Src_shapeText.l0 k y386 bt389.1 s0_0 bt389.2.1 bt389.2.2.1 bt389.2.2.2)) = some (r1, r2, r3, r4) := by first | (rw [hy386]; with_reducible exact H) | (have H2_ := (Option.bind_some _ _).symm.trans H; rw [hy386]; with_reducible exact H2_) | (have H2_ := (Option.bind_some _ _).symm.trans H; with_reducible exact H2_) | with_reducible exact H | (rw [hy386]; exact H) | exact H
  have Ny386 := Aside0.mk hy386
  clear hy386
  replace H := Option.bind_eq_some_iff.mp H
  obtain ⟨⟨t389, t390, t391, t392⟩, A20, H⟩ := H
  replace H : (spec_l01Src_shapeText.l0 k y386 t389 s0_0 t390 t391 t392) = some (r1, r2, r3, r4) := H
  have A2 := Aside0.mk A20
  clear A20
  have H' := Aside0.mk H
  clear H
  go_enter Tryd.func112, Tryd.ntmps112
  go_wp2_with (first | ((with_reducible refine gate_dst (N := 6) rfl ?_); refine Kd.R_lit (Kd.int .i64) _ 2 ?hg (N := 6) ?hd (xs := ([] : List Int)) (inner := []) (ok := fun _ => True) (okp := fun _ => True) ?hr ?hp (fun _ hk => hk) trivial (Below.refl _ _) (Nat.le_refl _) (by simp) ?_; (case hd => rfl); (case hg => rfl); (case hr => first | (go_simp; done) | (go_simp; rfl)); (case hp => exact (Reps.none _ _)); intro v387 w3 ho4 hb hg_ hnew_; clear hg_ hnew_; (first | rw [← Ny386.out] at ho4 | (simp only [Int.reduceToNat] at ho4; rw [← Ny386.out] at ho4)); have n0_ := Aside0.mk (Kd.R_lower ho4 (keep_size (w := w) (g := g) (row := none) (by repeat (first | (with_reducible first | exact HK.out | apply KeepBut.set_ | apply keep_drewN | apply keep_drew | apply keep_alloc) | exact HK.out)))); have n1_ := Aside0.mk (IsS145.below (by repeat (first | (with_reducible first | exact HI0.out | apply IsS145.alloc | apply IsS145.drewN | apply IsS145.drew | apply IsS145.set_1 | apply IsS145.set_2 | apply IsS145.set_3) | exact HI0.out)) hb); have n2_ := Aside0.mk (KeepBut.trans (by repeat (first | (with_reducible first | exact HK.out | apply KeepBut.set_ | apply keep_drewN | apply keep_drew | apply keep_alloc) | exact HK.out)) (KeepBut.of_below hb g none) (.inl rfl)); have n3_ := Aside0.mk (below_step (by repeat (first | (with_reducible first | exact HB.out | apply below_alloc | apply pw_below_drewN | apply below_drew1 | refine below_set ?_ (IsS145.ge HI0.out)) | exact HB.out)) hb); clear HI0; clear HK; clear HB; have HO388 := n0_; have HI0 := n1_; have HK := n2_; have HB := n3_; clear n0_ n1_ n2_ n3_; clear hb ho4; obtain ⟨ASz5_0, cSz5_0, HGz5, hgz5, HSz5_0⟩ := HI0.out; have hcz5_0 := cellS145_0 HGz5; have hcz5_1 := cellS145_1 HGz5; have hcz5_2 := cellS145_2 HGz5; have hcz5_3 := cellS145_3 HGz5; have hfz5_1 := blk_frozen HGz5 1; have hfz5_2 := blk_frozen HGz5 2; have hfz5_3 := blk_frozen HGz5 3; clear HGz5 hgz5) | ((with_reducible refine gate_callee (f := 94) rfl ?_); refine goesL_ (some 13) rfl rfl Tryd.func94 (by kernel_rfl) rfl #[.pointer (some ⟨g, 0, none⟩), .int .i64 (wrap64 (9 + s0_3))] rfl (by (try simp only [List.map_toArray, List.map_cons, List.map_nil]); first | done | rfl | (simp only [List.length_drop, List.length_take]; rfl)) ?_; (with_reducible refine (spec_l01Src_n.calls g s0_0 s0_1 s0_2 s0_3 (wrap64 (9 + s0_3)) t389 t390 t391 t392 w0 _ ?side1 ?side2 A2.out).mono ?_); (case side1 => repeat (first | (with_reducible first | exact HI0.out | apply IsS145.alloc | apply IsS145.drewN | apply IsS145.drew | apply IsS145.set_1 | apply IsS145.set_2 | apply IsS145.set_3) | exact HI0.out)); (case side2 => repeat (first | (with_reducible first | exact HB.out | apply below_alloc | apply pw_below_drewN | apply below_drew1 | refine below_set ?_ (IsS145.ge HI0.out)) | exact HB.out)); rintro e w6 ⟨rfl, hi, hb, hk⟩; refine ⟨_, rfl, ?_⟩; have n0_ := Aside0.mk (Kd.R_mono (Kd.R_keep (IsS145.apart (show IsS145 w0 _ g s0_0 s0_1 s0_2 s0_3 from by repeat (first | (with_reducible first | exact HI0.out | apply IsS145.alloc | apply IsS145.drewN | apply IsS145.drew | apply IsS145.set_1 | apply IsS145.set_2 | apply IsS145.set_3) | exact HI0.out)) (by (with_reducible repeat (first | apply Kd.R_alloc | apply Kd.R_drewN | apply Kd.R_drew)); exact HO388.out) (by decide)) hk (fun _ h => h.2)) (fun _ h => h.1)); have n1_ := Aside0.mk (KeepBut.trans (by repeat (first | (with_reducible first | exact HK.out | apply KeepBut.set_ | apply keep_drewN | apply keep_drew | apply keep_alloc) | exact HK.out)) hk (.inl rfl)); have n2_ := Aside0.mk (hb); have n3_ := Aside0.mk (hi); clear HO388; clear HK; clear HB; clear HI0; have HO388 := n0_; have HK := n1_; have HB := n2_; have HI0 := n3_; clear n0_ n1_ n2_ n3_; (try clear hb); (try clear hb2); (try clear hk); (try clear hi)))
  go_loopg [3, 4] k (fun kq v3 v4 w' => ∃ (x3_1 : List Int) (x4_1 : Int) (x1001_1 : Int) (x1002_1 : Int) (x1003_1 : Int), v4 = .int .i64 x4_1 ∧ Aside0 (spec_l01Src_shapeText.l0 kq x3_1 x4_1 s0_0 x1001_1 x1002_1 x1003_1 = some (r1, r2, r3, r4)) ∧ Aside0 (kq ≤ k) ∧ Aside0 (Kd.R (Kd.int .i64) 2 w' w.heap.size (fun _ => True) v3 x3_1) ∧ Aside0 (IsS145 w0 w' g s0_0 x1001_1 x1002_1 x1003_1) ∧ Aside0 (KeepBut w w' g none) ∧ Aside0 (Below w0.heap.size w0 w'))
  case atStart => exact ⟨(y386), (t389), (t390), (t391), (t392), (by first | rfl | (simp; done) | (simp [*]; done)), H', ⟨Nat.le_refl _⟩, ⟨by (with_reducible repeat (first | apply Kd.R_alloc | apply Kd.R_drewN | apply Kd.R_drew)); exact HO388.out⟩, ⟨by repeat (first | (with_reducible first | exact HI0.out | apply IsS145.alloc | apply IsS145.drewN | apply IsS145.drew | apply IsS145.set_1 | apply IsS145.set_2 | apply IsS145.set_3) | exact HI0.out)⟩, ⟨by repeat (first | (with_reducible first | exact HK.out | apply KeepBut.set_ | apply keep_drewN | apply keep_drew | apply keep_alloc) | exact HK.out)⟩, ⟨by repeat (first | (with_reducible first | exact HB.out | apply below_alloc | apply pw_below_drewN | apply below_drew1 | refine below_set ?_ (IsS145.ge HI0.out)) | exact HB.out)⟩⟩
  case round =>
    clear H'
    try clear c1
    try clear p2
    try clear p6
    try clear hcz5_0
    try clear hcz5_1
    try clear hcz5_2
    try clear hcz5_3
    try clear hfz5_1
    try clear hfz5_2
    try clear hfz5_3
    obtain ⟨x3_1, x4_1, x1001_1, x1002_1, x1003_1, rfl, HA, HK1, HO_3, HI0, HK, HB⟩ := hrel
    cases gk with
    | zero => exact absurd HA.out (by simp [spec_l01Src_shapeText.l0])
    | succ k1 =>
      have H := HA.out
      clear HA
      simp only [spec_l01Src_shapeText.l0] at H
      by_cases c7 : x4_1 > 0
      · rw [if_pos c7] at H
        have c7b0 : decide (0 < x4_1) = true := decide_eq_true c7
        clear c7
        replace H := Option.bind_eq_some_iff.mp H
        obtain ⟨⟨t393, t394, t395, t396⟩, A80, H⟩ := H
        replace H : (if t393 = 0 then (spec_l01Src_shapeText.j1 k1 x3_1 x4_1 t393 (t393 == 0) s0_0 t394 t395 t396) else (spec_l01Src_shapeText.j1 k1 x3_1 x4_1 t393 (t393 == 1) s0_0 t394 t395 t396)) = some (r1, r2, r3, r4) := H
        have A8 := Aside0.mk A80
        clear A80
        have HC9 := Aside0.mk H
        clear H
        go_upto_if 25 with (first | ((with_reducible refine gate_callee (f := 94) rfl ?_); refine goesL_ (some 19) rfl rfl Tryd.func94 (by kernel_rfl) rfl #[.pointer (some ⟨g, 0, none⟩), .int .i64 7] rfl (by (try simp only [List.map_toArray, List.map_cons, List.map_nil]); first | done | rfl | (simp only [List.length_drop, List.length_take]; rfl)) ?_; (with_reducible refine (spec_l01Src_n.calls g s0_0 x1001_1 x1002_1 x1003_1 7 t393 t394 t395 t396 w0 _ ?side1 ?side2 A8.out).mono ?_); (case side1 => repeat (first | (with_reducible first | exact HI0.out | apply IsS145.alloc | apply IsS145.drewN | apply IsS145.drew | apply IsS145.set_1 | apply IsS145.set_2 | apply IsS145.set_3) | exact HI0.out)); (case side2 => repeat (first | (with_reducible first | exact HB.out | apply below_alloc | apply pw_below_drewN | apply below_drew1 | refine below_set ?_ (IsS145.ge HI0.out)) | exact HB.out)); rintro e w10 ⟨rfl, hi, hb, hk⟩; refine ⟨_, rfl, ?_⟩; have n0_ := Aside0.mk (Kd.R_mono (Kd.R_keep (IsS145.apart (show IsS145 w0 _ g s0_0 x1001_1 x1002_1 x1003_1 from by repeat (first | (with_reducible first | exact HI0.out | apply IsS145.alloc | apply IsS145.drewN | apply IsS145.drew | apply IsS145.set_1 | apply IsS145.set_2 | apply IsS145.set_3) | exact HI0.out)) (by (with_reducible repeat (first | apply Kd.R_alloc | apply Kd.R_drewN | apply Kd.R_drew)); exact HO_3.out) (by decide)) hk (fun _ h => h.2)) (fun _ h => h.1)); have n1_ := Aside0.mk (KeepBut.trans (by repeat (first | (with_reducible first | exact HK.out | apply KeepBut.set_ | apply keep_drewN | apply keep_drew | apply keep_alloc) | exact HK.out)) hk (.inl rfl)); have n2_ := Aside0.mk (hb); have n3_ := Aside0.mk (hi); clear HO_3; clear HK; clear HB; clear HI0; have HO_3 := n0_; have HK := n1_; have HB := n2_; have HI0 := n3_; clear n0_ n1_ n2_ n3_; (try clear hb); (try clear hb2); (try clear hk); (try clear hi)))
        (try simp only [Act.put, List.setIfInBounds_toArray, List.set_cons_zero, List.set_cons_succ])
        go_cut [25] (fun v25 wc => ∃ (kq : Nat) (x25_8 : Bool), v25 = .bool x25_8 ∧ Aside0 (spec_l01Src_shapeText.j1 kq x3_1 x4_1 t393 x25_8 s0_0 t394 t395 t396 = some (r1, r2, r3, r4)) ∧ Aside0 (kq ≤ k1) ∧ Aside0 (Kd.R (Kd.int .i64) 2 wc w.heap.size (fun _ => True) u3 x3_1) ∧ Aside0 (IsS145 w0 wc g s0_0 t394 t395 t396) ∧ Aside0 (KeepBut w wc g none) ∧ Aside0 (Below w0.heap.size w0 wc))
        case first =>
          have H := HC9.out
          clear HC9
          by_cases c11 : t393 = 0
          · rw [if_pos c11] at H
            have c11b0 : (t393 == 0) = true := beq_iff_eq.mpr c11
            have c11b1 : (t393 != 0) = false := bne_eq_false_iff_eq.mpr c11
            clear c11
            (first | rw [c11b0] | (simp only [i64_w, i32_w]; rw [c11b0]) | skip)
            have H' := Aside0.mk H
            clear H
            go_wp2
            go_meet
            case rel => exact ⟨_, ((t393 == 0)), (by first | rfl | (simp; done) | (simp [*]; done)), H', ⟨by have := HK1.out; first | omega | exact Nat.le_refl _⟩, ⟨by (with_reducible repeat (first | apply Kd.R_alloc | apply Kd.R_drewN | apply Kd.R_drew)); exact HO_3.out⟩, ⟨by repeat (first | (with_reducible first | exact HI0.out | apply IsS145.alloc | apply IsS145.drewN | apply IsS145.drew | apply IsS145.set_1 | apply IsS145.set_2 | apply IsS145.set_3) | exact HI0.out)⟩, ⟨by repeat (first | (with_reducible first | exact HK.out | apply KeepBut.set_ | apply keep_drewN | apply keep_drew | apply keep_alloc) | exact HK.out)⟩, ⟨by repeat (first | (with_reducible first | exact HB.out | apply below_alloc | apply pw_below_drewN | apply below_drew1 | refine below_set ?_ (IsS145.ge HI0.out)) | exact HB.out)⟩⟩
          · rw [if_neg c11] at H
            have c11b0 : (t393 == 0) = false := beq_eq_false_iff_ne.mpr c11
            have c11b1 : (t393 != 0) = true := bne_iff_ne.mpr c11
            (first | rw [c11b0] | (simp only [i64_w, i32_w]; rw [c11b0]) | skip)
            have H' := Aside0.mk H
            clear H
            go_wp2
            go_meet
            case rel => exact ⟨_, ((t393 == 1)), (by first | rfl | (simp; done) | (simp [*]; done)), H', ⟨by have := HK1.out; first | omega | exact Nat.le_refl _⟩, ⟨by (with_reducible repeat (first | apply Kd.R_alloc | apply Kd.R_drewN | apply Kd.R_drew)); exact HO_3.out⟩, ⟨by repeat (first | (with_reducible first | exact HI0.out | apply IsS145.alloc | apply IsS145.drewN | apply IsS145.drew | apply IsS145.set_1 | apply IsS145.set_2 | apply IsS145.set_3) | exact HI0.out)⟩, ⟨by repeat (first | (with_reducible first | exact HK.out | apply KeepBut.set_ | apply keep_drewN | apply keep_drew | apply keep_alloc) | exact HK.out)⟩, ⟨by repeat (first | (with_reducible first | exact HB.out | apply below_alloc | apply pw_below_drewN | apply below_drew1 | refine below_set ?_ (IsS145.ge HI0.out)) | exact HB.out)⟩⟩
        case rest =>
          clear HC9
          try clear c1
          try clear p2
          try clear p6
          try clear c7
          try clear c7b0
          try clear c9
          try clear c11
          try clear c11b0
          try clear c11b1
          try clear hcz5_0
          try clear hcz5_1
          try clear hcz5_2
          try clear hcz5_3
          try clear hfz5_1
          try clear hfz5_2
          try clear hfz5_3
          try clear p2
          try clear p6
          obtain ⟨kq, x25_8, rfl, HA, HJ8, HO_3, HI0, HK, HB⟩ := hcut
          cases kq with
          | zero => exact absurd HA.out (by simp [spec_l01Src_shapeText.j1])
          | succ kj8 =>
            have H := HA.out
            clear HA
            simp only [spec_l01Src_shapeText.j1] at H
            by_cases c12 : x25_8 = true
            · subst c12
              have H1 : ((spec_l01Src_n.f s0_0 t394 t395 t396 8).bind fun bt397 => (if x3_1.length < 17592186044416 then (spec_l01Src_shapeText.l0 kj8 (x3_1 ++ [wrap64 (1280 + bt397.1)]) (wrap64 (x4_1 - 1)) s0_0 bt397.2.1 bt397.2.2.1 bt397.2.2.2) else (none))) = some (r1, r2, r3, r4) := by rw [if_pos rfl] at H; exact H
              clear H
              have H := H1
              clear H1
              replace H := Option.bind_eq_some_iff.mp H
              obtain ⟨⟨t397, t398, t399, t400⟩, A130, H⟩ := H
              replace H : (if x3_1.length < 17592186044416 then (spec_l01Src_shapeText.l0 kj8 (x3_1 ++ [wrap64 (1280 + t397)]) (wrap64 (x4_1 - 1)) s0_0 t398 t399 t400) else (none)) = some (r1, r2, r3, r4) := H
              have A13 := Aside0.mk A130
              clear A130
              by_cases c14 : x3_1.length < 17592186044416
              · rw [if_pos c14] at H
                have LMc14 := Aside0.mk c14
                clear c14
                obtain ⟨y401, hy401⟩ : ∃ y_ : List Int, y_ = (x3_1 ++ [wrap64 (1280 + t397)]) := ⟨_, rfl⟩
                replace H : (spec_l01Src_shapeText.l0 kj8 y401 (wrap64 (x4_1 - 1)) s0_0 t398 t399 t400) = some (r1, r2, r3, r4) := by first | (rw [hy401]; with_reducible exact H) | (have H2_ := (Option.bind_some _ _).symm.trans H; rw [hy401]; with_reducible exact H2_) | (have H2_ := (Option.bind_some _ _).symm.trans H; with_reducible exact H2_) | with_reducible exact H | (rw [hy401]; exact H) | exact H
                have Ny401 := Aside0.mk hy401
                clear hy401
                have H' := Aside0.mk H
                clear H
                go_wp2_with (first | ((with_reducible refine gate_callee (f := 94) rfl ?_); refine goesL_ (some 30) rfl rfl Tryd.func94 (by kernel_rfl) rfl #[.pointer (some ⟨g, 0, none⟩), .int .i64 8] rfl (by (try simp only [List.map_toArray, List.map_cons, List.map_nil]); first | done | rfl | (simp only [List.length_drop, List.length_take]; rfl)) ?_; (with_reducible refine (spec_l01Src_n.calls g s0_0 t394 t395 t396 8 t397 t398 t399 t400 w0 _ ?side1 ?side2 A13.out).mono ?_); (case side1 => repeat (first | (with_reducible first | exact HI0.out | apply IsS145.alloc | apply IsS145.drewN | apply IsS145.drew | apply IsS145.set_1 | apply IsS145.set_2 | apply IsS145.set_3) | exact HI0.out)); (case side2 => repeat (first | (with_reducible first | exact HB.out | apply below_alloc | apply pw_below_drewN | apply below_drew1 | refine below_set ?_ (IsS145.ge HI0.out)) | exact HB.out)); rintro e w15 ⟨rfl, hi, hb, hk⟩; refine ⟨_, rfl, ?_⟩; have n0_ := Aside0.mk (Kd.R_mono (Kd.R_keep (IsS145.apart (show IsS145 w0 _ g s0_0 t394 t395 t396 from by repeat (first | (with_reducible first | exact HI0.out | apply IsS145.alloc | apply IsS145.drewN | apply IsS145.drew | apply IsS145.set_1 | apply IsS145.set_2 | apply IsS145.set_3) | exact HI0.out)) (by (with_reducible repeat (first | apply Kd.R_alloc | apply Kd.R_drewN | apply Kd.R_drew)); exact HO_3.out) (by decide)) hk (fun _ h => h.2)) (fun _ h => h.1)); have n1_ := Aside0.mk (KeepBut.trans (by repeat (first | (with_reducible first | exact HK.out | apply KeepBut.set_ | apply keep_drewN | apply keep_drew | apply keep_alloc) | exact HK.out)) hk (.inl rfl)); have n2_ := Aside0.mk (hb); have n3_ := Aside0.mk (hi); clear HO_3; clear HK; clear HB; clear HI0; have HO_3 := n0_; have HK := n1_; have HB := n2_; have HI0 := n3_; clear n0_ n1_ n2_ n3_; (try clear hb); (try clear hb2); (try clear hk); (try clear hi)) | ((with_reducible refine gate_builtin (b := .append) (xs := #[.tmp 28, .tmp 32]) rfl ?_); at_builtin; refine Kd.R_append (Kd.int .i64) w.heap.size rfl (.tmp 28) (.tmp 32) 25 2 (.int .i64 0) 8 rfl Tryd.underlying25 info2 rfl (by decide) (by omega) u3 x3_1 (wrap64 (1280 + t397)) [.int .i64 (wrap64 (1280 + t397))] (fun _ => True) (fun _ => False) rfl rfl ?aP (fun _ hk => hk.elim) ?aF ?aO (Below.refl _ _) ?aS ?aL ?_; (case aP => exact rfl); (case aF => exact (fun _ _ => trivial)); (case aO => exact (by (with_reducible repeat (first | apply Kd.R_alloc | apply Kd.R_drewN | apply Kd.R_drew)); exact HO_3.out)); (case aS => exact (keep_size (w := w) (g := g) (row := none) (by repeat (first | (with_reducible first | exact HK.out | apply KeepBut.set_ | apply keep_drewN | apply keep_drew | apply keep_alloc) | exact HK.out)))); (case aL => have := LMc14.out; omega); intro v402 w16 ho hb hg hat; rw [← Ny401.out] at ho; have n0_ := Aside0.mk (IsS145.grown (by repeat (first | (with_reducible first | exact HI0.out | apply IsS145.alloc | apply IsS145.drewN | apply IsS145.drew | apply IsS145.set_1 | apply IsS145.set_2 | apply IsS145.set_3) | exact HI0.out)) hg (IsS145.own_ne HI0.out HO_3.out (by decide))); have n1_ := Aside0.mk (below_weaken (by repeat (first | (with_reducible first | exact HB.out | apply below_alloc | apply pw_below_drewN | apply below_drew1 | refine below_set ?_ (IsS145.ge HI0.out)) | exact HB.out)) HL.out hb); have n2_ := Aside0.mk (KeepBut.trans (by repeat (first | (with_reducible first | exact HK.out | apply KeepBut.set_ | apply keep_drewN | apply keep_drew | apply keep_alloc) | exact HK.out)) (KeepBut.of_grown hg g) (Kd.R_base2 HO_3.out)); have n3_ := Aside0.mk (ho); clear HI0; clear HB; clear HK; clear HO_3; have HI0 := n0_; have HB := n1_; have HK := n2_; have HO403 := n3_; clear n0_ n1_ n2_ n3_; clear ho hb hg hat))
                go_roundg kj8
                case measure => have := HK1.out; have := HJ8.out; omega
                case rel => exact ⟨(y401), (wrap64 (x4_1 - 1)), (t398), (t399), (t400), (by first | rfl | (simp; done) | (simp [*]; done)), H', ⟨by have := HK1.out; have := HJ8.out; omega⟩, ⟨by (with_reducible repeat (first | apply Kd.R_alloc | apply Kd.R_drewN | apply Kd.R_drew)); exact HO403.out⟩, ⟨by repeat (first | (with_reducible first | exact HI0.out | apply IsS145.alloc | apply IsS145.drewN | apply IsS145.drew | apply IsS145.set_1 | apply IsS145.set_2 | apply IsS145.set_3) | exact HI0.out)⟩, ⟨by repeat (first | (with_reducible first | exact HK.out | apply KeepBut.set_ | apply keep_drewN | apply keep_drew | apply keep_alloc) | exact HK.out)⟩, ⟨by repeat (first | (with_reducible first | exact HB.out | apply below_alloc | apply pw_below_drewN | apply below_drew1 | refine below_set ?_ (IsS145.ge HI0.out)) | exact HB.out)⟩⟩
              · rw [if_neg c14] at H
                exact absurd H (by simp)
            · replace c12 := Bool.eq_false_iff.mpr c12
              subst c12
              have H1 : (if t393 = 2 then ((some (([1536, 1537, 1584, 1585, 1584] : List Int) : List Int)).bind fun y404 => ((spec_l01Src_n.f s0_0 t394 t395 t396 5).bind fun bt407 => (if 0 ≤ bt407.1 then (if bt407.1 < (y404.length : Int) then (if x3_1.length < 17592186044416 then (spec_l01Src_shapeText.l0 kj8 (x3_1 ++ [rd y404 bt407.1]) (wrap64 (x4_1 - 1)) s0_0 bt407.2.1 bt407.2.2.1 bt407.2.2.2) else (none)) else (none)) else (none)))) else (if t393 = 3 then ((some (([1568, 1569, 1570, 1536] : List Int) : List Int)).bind fun y415 => ((spec_l01Src_n.f s0_0 t394 t395 t396 4).bind fun bt418 => (if 0 ≤ bt418.1 then (if bt418.1 < (y415.length : Int) then (if x3_1.length < 17592186044416 then (spec_l01Src_shapeText.l0 kj8 (x3_1 ++ [rd y415 bt418.1]) (wrap64 (x4_1 - 1)) s0_0 bt418.2.1 bt418.2.2.1 bt418.2.2.2) else (none)) else (none)) else (none)))) else (if t393 = 4 then ((some (([4096, 7936, 7937, 32] : List Int) : List Int)).bind fun y426 => ((spec_l01Src_n.f s0_0 t394 t395 t396 4).bind fun bt429 => (if 0 ≤ bt429.1 then (if bt429.1 < (y426.length : Int) then (if x3_1.length < 17592186044416 then (spec_l01Src_shapeText.l0 kj8 (x3_1 ++ [rd y426 bt429.1]) (wrap64 (x4_1 - 1)) s0_0 bt429.2.1 bt429.2.2.1 bt429.2.2.2) else (none)) else (none)) else (none)))) else (if t393 = 5 then ((spec_l01Src_n.f s0_0 t394 t395 t396 3).bind fun bt437 => (if x3_1.length < 17592186044416 then (spec_l01Src_shapeText.l0 kj8 (x3_1 ++ [wrap64 (97 + bt437.1)]) (wrap64 (x4_1 - 1)) s0_0 bt437.2.1 bt437.2.2.1 bt437.2.2.2) else (none))) else ((spec_l01Src_point.f kj8 s0_0 t394 t395 t396).bind fun bt444 => (if x3_1.length < 17592186044416 then (spec_l01Src_shapeText.l0 kj8 (x3_1 ++ [bt444.1]) (wrap64 (x4_1 - 1)) s0_0 bt444.2.1 bt444.2.2.1 bt444.2.2.2) else (none))))))) = some (r1, r2, r3, r4) := by rw [if_neg (show ¬ (false = true) by decide)] at H; exact H
              clear H
              have H := H1
              clear H1
              by_cases c17 : t393 = 2
              · rw [if_pos c17] at H
                have c17b0 : (t393 == 2) = true := beq_iff_eq.mpr c17
                have c17b1 : (t393 != 2) = false := bne_eq_false_iff_eq.mpr c17
                clear c17
                obtain ⟨y404, hy404⟩ : ∃ y_ : List Int, y_ = (([1536, 1537, 1584, 1585, 1584] : List Int)) := ⟨_, rfl⟩
                replace H : ((spec_l01Src_n.f s0_0 t394 t395 t396 5).bind fun bt407 => (if 0 ≤ bt407.1 then (if bt407.1 < (y404.length : Int) then (if x3_1.length < 17592186044416 then (spec_l01Src_shapeText.l0 kj8 (x3_1 ++ [rd y404 bt407.1]) (wrap64 (x4_1 - 1)) s0_0 bt407.2.1 bt407.2.2.1 bt407.2.2.2) else (none)) else (none)) else (none))) = some (r1, r2, r3, r4) := by first | (rw [hy404]; with_reducible exact H) | (have H2_ := (Option.bind_some _ _).symm.trans H; rw [hy404]; with_reducible exact H2_) | (have H2_ := (Option.bind_some _ _).symm.trans H; with_reducible exact H2_) | with_reducible exact H | (rw [hy404]; exact H) | exact H
                have Ny404 := Aside0.mk hy404
                clear hy404
                replace H := Option.bind_eq_some_iff.mp H
                obtain ⟨⟨t407, t408, t409, t410⟩, A180, H⟩ := H
                replace H : (if 0 ≤ t407 then (if t407 < (y404.length : Int) then (if x3_1.length < 17592186044416 then (spec_l01Src_shapeText.l0 kj8 (x3_1 ++ [rd y404 t407]) (wrap64 (x4_1 - 1)) s0_0 t408 t409 t410) else (none)) else (none)) else (none)) = some (r1, r2, r3, r4) := H
                have A18 := Aside0.mk A180
                clear A180
                by_cases c19 : 0 ≤ t407
                · rw [if_pos c19] at H
                  have c19b0 : decide (0 ≤ t407) = true := decide_eq_true c19
                  clear c19
                  by_cases c20 : t407 < (y404.length : Int)
                  · rw [if_pos c20] at H
                    have c20b0 : decide (t407 < (y404.length : Int)) = true := decide_eq_true c20
                    clear c20
                    by_cases c21 : x3_1.length < 17592186044416
                    · rw [if_pos c21] at H
                      have LMc21 := Aside0.mk c21
                      clear c21
                      obtain ⟨y412, hy412⟩ : ∃ y_ : List Int, y_ = (x3_1 ++ [rd y404 t407]) := ⟨_, rfl⟩
                      replace H : (spec_l01Src_shapeText.l0 kj8 y412 (wrap64 (x4_1 - 1)) s0_0 t408 t409 t410) = some (r1, r2, r3, r4) := by first | (rw [hy412]; with_reducible exact H) | (have H2_ := (Option.bind_some _ _).symm.trans H; rw [hy412]; with_reducible exact H2_) | (have H2_ := (Option.bind_some _ _).symm.trans H; with_reducible exact H2_) | with_reducible exact H | (rw [hy412]; exact H) | exact H
                      have Ny412 := Aside0.mk hy412
                      clear hy412
                      have H' := Aside0.mk H
                      clear H
                      go_wp2_with (first | ((with_reducible refine gate_dst (N := 37) rfl ?_); refine Kd.R_lit (Kd.int .i64) _ 2 ?hg (N := 37) ?hd (xs := ([1536, 1537, 1584, 1585, 1584] : List Int)) (inner := [.int .i64 1536, .int .i64 1537, .int .i64 1584, .int .i64 1585, .int .i64 1584]) (ok := fun _ => True) (okp := fun _ => True) ?hr ?hp (fun _ hk => hk) trivial (Below.refl _ _) (Nat.le_refl _) (by simp) ?_; (case hd => rfl); (case hg => rfl); (case hr => first | (go_simp; done) | (go_simp; rfl)); (case hp => exact (Reps.one (show Kd.M (Kd.int .i64) _ _ _ 1536 [.int .i64 1536] from rfl) (Reps.one (show Kd.M (Kd.int .i64) _ _ _ 1537 [.int .i64 1537] from rfl) (Reps.one (show Kd.M (Kd.int .i64) _ _ _ 1584 [.int .i64 1584] from rfl) (Reps.one (show Kd.M (Kd.int .i64) _ _ _ 1585 [.int .i64 1585] from rfl) (Reps.one (show Kd.M (Kd.int .i64) _ _ _ 1584 [.int .i64 1584] from rfl) (Reps.none _ _))))))); intro v405 w22 ho23 hb hg_ hnew_; clear hg_ hnew_; (first | rw [← Ny404.out] at ho23 | (simp only [Int.reduceToNat] at ho23; rw [← Ny404.out] at ho23)); have n0_ := Aside0.mk (Kd.R_elder' (by (with_reducible repeat (first | apply Kd.R_alloc | apply Kd.R_drewN | apply Kd.R_drew)); exact HO_3.out) (Kd.R_base ho23) hb); have n1_ := Aside0.mk (Kd.R_lower (Kd.R_new' ho23 (Kd.R_lt (by (with_reducible repeat (first | apply Kd.R_alloc | apply Kd.R_drewN | apply Kd.R_drew)); exact HO_3.out))) (keep_size (w := w) (g := g) (row := none) (by repeat (first | (with_reducible first | exact HK.out | apply KeepBut.set_ | apply keep_drewN | apply keep_drew | apply keep_alloc) | exact HK.out)))); have n2_ := Aside0.mk (IsS145.below (by repeat (first | (with_reducible first | exact HI0.out | apply IsS145.alloc | apply IsS145.drewN | apply IsS145.drew | apply IsS145.set_1 | apply IsS145.set_2 | apply IsS145.set_3) | exact HI0.out)) hb); have n3_ := Aside0.mk (KeepBut.trans (by repeat (first | (with_reducible first | exact HK.out | apply KeepBut.set_ | apply keep_drewN | apply keep_drew | apply keep_alloc) | exact HK.out)) (KeepBut.of_below hb g none) (.inl rfl)); have n4_ := Aside0.mk (below_step (by repeat (first | (with_reducible first | exact HB.out | apply below_alloc | apply pw_below_drewN | apply below_drew1 | refine below_set ?_ (IsS145.ge HI0.out)) | exact HB.out)) hb); clear HO_3; clear HI0; clear HK; clear HB; have HO_3 := n0_; have HO406 := n1_; have HI0 := n2_; have HK := n3_; have HB := n4_; clear n0_ n1_ n2_ n3_ n4_; clear hb ho23) | ((with_reducible refine gate_callee (f := 94) rfl ?_); refine goesL_ (some 39) rfl rfl Tryd.func94 (by kernel_rfl) rfl #[.pointer (some ⟨g, 0, none⟩), .int .i64 5] rfl (by (try simp only [List.map_toArray, List.map_cons, List.map_nil]); first | done | rfl | (simp only [List.length_drop, List.length_take]; rfl)) ?_; (with_reducible refine (spec_l01Src_n.calls g s0_0 t394 t395 t396 5 t407 t408 t409 t410 w0 _ ?side1 ?side2 A18.out).mono ?_); (case side1 => repeat (first | (with_reducible first | exact HI0.out | apply IsS145.alloc | apply IsS145.drewN | apply IsS145.drew | apply IsS145.set_1 | apply IsS145.set_2 | apply IsS145.set_3) | exact HI0.out)); (case side2 => repeat (first | (with_reducible first | exact HB.out | apply below_alloc | apply pw_below_drewN | apply below_drew1 | refine below_set ?_ (IsS145.ge HI0.out)) | exact HB.out)); rintro e w24 ⟨rfl, hi, hb, hk⟩; refine ⟨_, rfl, ?_⟩; have n0_ := Aside0.mk (Kd.R_mono (Kd.R_keep (IsS145.apart (show IsS145 w0 _ g s0_0 t394 t395 t396 from by repeat (first | (with_reducible first | exact HI0.out | apply IsS145.alloc | apply IsS145.drewN | apply IsS145.drew | apply IsS145.set_1 | apply IsS145.set_2 | apply IsS145.set_3) | exact HI0.out)) (by (with_reducible repeat (first | apply Kd.R_alloc | apply Kd.R_drewN | apply Kd.R_drew)); exact HO_3.out) (by decide)) hk (fun _ h => h.2)) (fun _ h => h.1)); have n1_ := Aside0.mk (Kd.R_mono (Kd.R_keep (IsS145.apart (show IsS145 w0 _ g s0_0 t394 t395 t396 from by repeat (first | (with_reducible first | exact HI0.out | apply IsS145.alloc | apply IsS145.drewN | apply IsS145.drew | apply IsS145.set_1 | apply IsS145.set_2 | apply IsS145.set_3) | exact HI0.out)) (by (with_reducible repeat (first | apply Kd.R_alloc | apply Kd.R_drewN | apply Kd.R_drew)); exact HO406.out) (by decide)) hk (fun _ h => h.2)) (fun _ h => h.1)); have n2_ := Aside0.mk (KeepBut.trans (by repeat (first | (with_reducible first | exact HK.out | apply KeepBut.set_ | apply keep_drewN | apply keep_drew | apply keep_alloc) | exact HK.out)) hk (.inl rfl)); have n3_ := Aside0.mk (hb); have n4_ := Aside0.mk (hi); clear HO_3; clear HO406; clear HK; clear HB; clear HI0; have HO_3 := n0_; have HO406 := n1_; have HK := n2_; have HB := n3_; have HI0 := n4_; clear n0_ n1_ n2_ n3_ n4_; (try clear hb); (try clear hb2); (try clear hk); (try clear hi); obtain ⟨Ao25, co25, eo25⟩ := Kd.R_slice HO406.out; subst eo25; have p411 : 0 ≤ (t407 : Int) := of_decide_eq_true (by first | (with_reducible assumption) | assumption); have q411 : t407 < (y404.length : Int) := of_decide_eq_true (by first | (with_reducible assumption) | assumption); obtain ⟨ad411, e411, hx411_0⟩ := Kd.at_int (Kd.R_reads' HO406.out).2.2 t407 p411 q411; cases e411; replace p411 := eq_true p411; replace q411 := eq_true q411) | ((with_reducible refine gate_builtin (b := .append) (xs := #[.tmp 36, .tmp 42]) rfl ?_); at_builtin; refine Kd.R_append (Kd.int .i64) w.heap.size rfl (.tmp 36) (.tmp 42) 25 2 (.int .i64 0) 8 rfl Tryd.underlying25 info2 rfl (by decide) (by omega) u3 x3_1 (rd y404 t407) [.int .i64 (rd y404 t407)] (fun k_ => some k_ ≠ (.slice (some ad411) y404.length co25 : Value).ownBlock) (fun _ => False) rfl rfl ?aP (fun _ hk => hk.elim) ?aF ?aO (Below.refl _ _) ?aS ?aL ?_; (case aP => exact rfl); (case aF => exact (fun k_ hk => Kd.fresh' (Kd.R_lt (by (with_reducible repeat (first | apply Kd.R_alloc | apply Kd.R_drewN | apply Kd.R_drew)); exact HO406.out)) k_ hk)); (case aO => exact (by (with_reducible repeat (first | apply Kd.R_alloc | apply Kd.R_drewN | apply Kd.R_drew)); exact Kd.R_mono HO_3.out (fun _ hk => hk.2))); (case aS => exact (keep_size (w := w) (g := g) (row := none) (by repeat (first | (with_reducible first | exact HK.out | apply KeepBut.set_ | apply keep_drewN | apply keep_drew | apply keep_alloc) | exact HK.out)))); (case aL => have := LMc21.out; omega); intro v413 w26 ho hb hg hat; rw [← Ny412.out] at ho; have n0_ := Aside0.mk (IsS145.grown (by repeat (first | (with_reducible first | exact HI0.out | apply IsS145.alloc | apply IsS145.drewN | apply IsS145.drew | apply IsS145.set_1 | apply IsS145.set_2 | apply IsS145.set_3) | exact HI0.out)) hg (IsS145.own_ne HI0.out HO_3.out (by decide))); have n1_ := Aside0.mk (Kd.R_after (ok := (fun _ => True)) (by (with_reducible repeat (first | apply Kd.R_alloc | apply Kd.R_drewN | apply Kd.R_drew)); exact HO406.out) hg hat); have n2_ := Aside0.mk (below_weaken (by repeat (first | (with_reducible first | exact HB.out | apply below_alloc | apply pw_below_drewN | apply below_drew1 | refine below_set ?_ (IsS145.ge HI0.out)) | exact HB.out)) HL.out hb); have n3_ := Aside0.mk (KeepBut.trans (by repeat (first | (with_reducible first | exact HK.out | apply KeepBut.set_ | apply keep_drewN | apply keep_drew | apply keep_alloc) | exact HK.out)) (KeepBut.of_grown hg g) (Kd.R_base2 HO_3.out)); have n4_ := Aside0.mk (ho); clear HI0; clear HO406; clear HB; clear HK; clear HO_3; have HI0 := n0_; have HO406 := n1_; have HB := n2_; have HK := n3_; have HO414 := n4_; clear n0_ n1_ n2_ n3_ n4_; clear ho hb hg hat))
                      go_roundg kj8
                      case measure => have := HK1.out; have := HJ8.out; omega
                      case rel => exact ⟨(y412), (wrap64 (x4_1 - 1)), (t408), (t409), (t410), (by first | rfl | (simp; done) | (simp [*]; done)), H', ⟨by have := HK1.out; have := HJ8.out; omega⟩, ⟨by (with_reducible repeat (first | apply Kd.R_alloc | apply Kd.R_drewN | apply Kd.R_drew)); exact Kd.R_mono HO414.out (fun _ hk => trivial)⟩, ⟨by repeat (first | (with_reducible first | exact HI0.out | apply IsS145.alloc | apply IsS145.drewN | apply IsS145.drew | apply IsS145.set_1 | apply IsS145.set_2 | apply IsS145.set_3) | exact HI0.out)⟩, ⟨by repeat (first | (with_reducible first | exact HK.out | apply KeepBut.set_ | apply keep_drewN | apply keep_drew | apply keep_alloc) | exact HK.out)⟩, ⟨by repeat (first | (with_reducible first | exact HB.out | apply below_alloc | apply pw_below_drewN | apply below_drew1 | refine below_set ?_ (IsS145.ge HI0.out)) | exact HB.out)⟩⟩
                    · rw [if_neg c21] at H
                      exact absurd H (by simp)
                  · rw [if_neg c20] at H
                    exact absurd H (by simp)
                · rw [if_neg c19] at H
                  exact absurd H (by simp)
              · rw [if_neg c17] at H
                have c17b0 : (t393 == 2) = false := beq_eq_false_iff_ne.mpr c17
                have c17b1 : (t393 != 2) = true := bne_iff_ne.mpr c17
                by_cases c27 : t393 = 3
                · rw [if_pos c27] at H
                  have c27b0 : (t393 == 3) = true := beq_iff_eq.mpr c27
                  have c27b1 : (t393 != 3) = false := bne_eq_false_iff_eq.mpr c27
                  clear c27
                  obtain ⟨y415, hy415⟩ : ∃ y_ : List Int, y_ = (([1568, 1569, 1570, 1536] : List Int)) := ⟨_, rfl⟩
                  replace H : ((spec_l01Src_n.f s0_0 t394 t395 t396 4).bind fun bt418 => (if 0 ≤ bt418.1 then (if bt418.1 < (y415.length : Int) then (if x3_1.length < 17592186044416 then (spec_l01Src_shapeText.l0 kj8 (x3_1 ++ [rd y415 bt418.1]) (wrap64 (x4_1 - 1)) s0_0 bt418.2.1 bt418.2.2.1 bt418.2.2.2) else (none)) else (none)) else (none))) = some (r1, r2, r3, r4) := by first | (rw [hy415]; with_reducible exact H) | (have H2_ := (Option.bind_some _ _).symm.trans H; rw [hy415]; with_reducible exact H2_) | (have H2_ := (Option.bind_some _ _).symm.trans H; with_reducible exact H2_) | with_reducible exact H | (rw [hy415]; exact H) | exact H
                  have Ny415 := Aside0.mk hy415
                  clear hy415
                  replace H := Option.bind_eq_some_iff.mp H
                  obtain ⟨⟨t418, t419, t420, t421⟩, A280, H⟩ := H
                  replace H : (if 0 ≤ t418 then (if t418 < (y415.length : Int) then (if x3_1.length < 17592186044416 then (spec_l01Src_shapeText.l0 kj8 (x3_1 ++ [rd y415 t418]) (wrap64 (x4_1 - 1)) s0_0 t419 t420 t421) else (none)) else (none)) else (none)) = some (r1, r2, r3, r4) := H
                  have A28 := Aside0.mk A280
                  clear A280
                  by_cases c29 : 0 ≤ t418
                  · rw [if_pos c29] at H
                    have c29b0 : decide (0 ≤ t418) = true := decide_eq_true c29
                    clear c29
                    by_cases c30 : t418 < (y415.length : Int)
                    · rw [if_pos c30] at H
                      have c30b0 : decide (t418 < (y415.length : Int)) = true := decide_eq_true c30
                      clear c30
                      by_cases c31 : x3_1.length < 17592186044416
                      · rw [if_pos c31] at H
                        have LMc31 := Aside0.mk c31
                        clear c31
                        obtain ⟨y423, hy423⟩ : ∃ y_ : List Int, y_ = (x3_1 ++ [rd y415 t418]) := ⟨_, rfl⟩
                        replace H : (spec_l01Src_shapeText.l0 kj8 y423 (wrap64 (x4_1 - 1)) s0_0 t419 t420 t421) = some (r1, r2, r3, r4) := by first | (rw [hy423]; with_reducible exact H) | (have H2_ := (Option.bind_some _ _).symm.trans H; rw [hy423]; with_reducible exact H2_) | (have H2_ := (Option.bind_some _ _).symm.trans H; with_reducible exact H2_) | with_reducible exact H | (rw [hy423]; exact H) | exact H
                        have Ny423 := Aside0.mk hy423
                        clear hy423
                        have H' := Aside0.mk H
                        clear H
                        go_wp2_with (first | ((with_reducible refine gate_dst (N := 47) rfl ?_); refine Kd.R_lit (Kd.int .i64) _ 2 ?hg (N := 47) ?hd (xs := ([1568, 1569, 1570, 1536] : List Int)) (inner := [.int .i64 1568, .int .i64 1569, .int .i64 1570, .int .i64 1536]) (ok := fun _ => True) (okp := fun _ => True) ?hr ?hp (fun _ hk => hk) trivial (Below.refl _ _) (Nat.le_refl _) (by simp) ?_; (case hd => rfl); (case hg => rfl); (case hr => first | (go_simp; done) | (go_simp; rfl)); (case hp => exact (Reps.one (show Kd.M (Kd.int .i64) _ _ _ 1568 [.int .i64 1568] from rfl) (Reps.one (show Kd.M (Kd.int .i64) _ _ _ 1569 [.int .i64 1569] from rfl) (Reps.one (show Kd.M (Kd.int .i64) _ _ _ 1570 [.int .i64 1570] from rfl) (Reps.one (show Kd.M (Kd.int .i64) _ _ _ 1536 [.int .i64 1536] from rfl) (Reps.none _ _)))))); intro v416 w32 ho33 hb hg_ hnew_; clear hg_ hnew_; (first | rw [← Ny415.out] at ho33 | (simp only [Int.reduceToNat] at ho33; rw [← Ny415.out] at ho33)); have n0_ := Aside0.mk (Kd.R_elder' (by (with_reducible repeat (first | apply Kd.R_alloc | apply Kd.R_drewN | apply Kd.R_drew)); exact HO_3.out) (Kd.R_base ho33) hb); have n1_ := Aside0.mk (Kd.R_lower (Kd.R_new' ho33 (Kd.R_lt (by (with_reducible repeat (first | apply Kd.R_alloc | apply Kd.R_drewN | apply Kd.R_drew)); exact HO_3.out))) (keep_size (w := w) (g := g) (row := none) (by repeat (first | (with_reducible first | exact HK.out | apply KeepBut.set_ | apply keep_drewN | apply keep_drew | apply keep_alloc) | exact HK.out)))); have n2_ := Aside0.mk (IsS145.below (by repeat (first | (with_reducible first | exact HI0.out | apply IsS145.alloc | apply IsS145.drewN | apply IsS145.drew | apply IsS145.set_1 | apply IsS145.set_2 | apply IsS145.set_3) | exact HI0.out)) hb); have n3_ := Aside0.mk (KeepBut.trans (by repeat (first | (with_reducible first | exact HK.out | apply KeepBut.set_ | apply keep_drewN | apply keep_drew | apply keep_alloc) | exact HK.out)) (KeepBut.of_below hb g none) (.inl rfl)); have n4_ := Aside0.mk (below_step (by repeat (first | (with_reducible first | exact HB.out | apply below_alloc | apply pw_below_drewN | apply below_drew1 | refine below_set ?_ (IsS145.ge HI0.out)) | exact HB.out)) hb); clear HO_3; clear HI0; clear HK; clear HB; have HO_3 := n0_; have HO417 := n1_; have HI0 := n2_; have HK := n3_; have HB := n4_; clear n0_ n1_ n2_ n3_ n4_; clear hb ho33) | ((with_reducible refine gate_callee (f := 94) rfl ?_); refine goesL_ (some 49) rfl rfl Tryd.func94 (by kernel_rfl) rfl #[.pointer (some ⟨g, 0, none⟩), .int .i64 4] rfl (by (try simp only [List.map_toArray, List.map_cons, List.map_nil]); first | done | rfl | (simp only [List.length_drop, List.length_take]; rfl)) ?_; (with_reducible refine (spec_l01Src_n.calls g s0_0 t394 t395 t396 4 t418 t419 t420 t421 w0 _ ?side1 ?side2 A28.out).mono ?_); (case side1 => repeat (first | (with_reducible first | exact HI0.out | apply IsS145.alloc | apply IsS145.drewN | apply IsS145.drew | apply IsS145.set_1 | apply IsS145.set_2 | apply IsS145.set_3) | exact HI0.out)); (case side2 => repeat (first | (with_reducible first | exact HB.out | apply below_alloc | apply pw_below_drewN | apply below_drew1 | refine below_set ?_ (IsS145.ge HI0.out)) | exact HB.out)); rintro e w34 ⟨rfl, hi, hb, hk⟩; refine ⟨_, rfl, ?_⟩; have n0_ := Aside0.mk (Kd.R_mono (Kd.R_keep (IsS145.apart (show IsS145 w0 _ g s0_0 t394 t395 t396 from by repeat (first | (with_reducible first | exact HI0.out | apply IsS145.alloc | apply IsS145.drewN | apply IsS145.drew | apply IsS145.set_1 | apply IsS145.set_2 | apply IsS145.set_3) | exact HI0.out)) (by (with_reducible repeat (first | apply Kd.R_alloc | apply Kd.R_drewN | apply Kd.R_drew)); exact HO_3.out) (by decide)) hk (fun _ h => h.2)) (fun _ h => h.1)); have n1_ := Aside0.mk (Kd.R_mono (Kd.R_keep (IsS145.apart (show IsS145 w0 _ g s0_0 t394 t395 t396 from by repeat (first | (with_reducible first | exact HI0.out | apply IsS145.alloc | apply IsS145.drewN | apply IsS145.drew | apply IsS145.set_1 | apply IsS145.set_2 | apply IsS145.set_3) | exact HI0.out)) (by (with_reducible repeat (first | apply Kd.R_alloc | apply Kd.R_drewN | apply Kd.R_drew)); exact HO417.out) (by decide)) hk (fun _ h => h.2)) (fun _ h => h.1)); have n2_ := Aside0.mk (KeepBut.trans (by repeat (first | (with_reducible first | exact HK.out | apply KeepBut.set_ | apply keep_drewN | apply keep_drew | apply keep_alloc) | exact HK.out)) hk (.inl rfl)); have n3_ := Aside0.mk (hb); have n4_ := Aside0.mk (hi); clear HO_3; clear HO417; clear HK; clear HB; clear HI0; have HO_3 := n0_; have HO417 := n1_; have HK := n2_; have HB := n3_; have HI0 := n4_; clear n0_ n1_ n2_ n3_ n4_; (try clear hb); (try clear hb2); (try clear hk); (try clear hi); obtain ⟨Ao35, co35, eo35⟩ := Kd.R_slice HO417.out; subst eo35; have p422 : 0 ≤ (t418 : Int) := of_decide_eq_true (by first | (with_reducible assumption) | assumption); have q422 : t418 < (y415.length : Int) := of_decide_eq_true (by first | (with_reducible assumption) | assumption); obtain ⟨ad422, e422, hx422_0⟩ := Kd.at_int (Kd.R_reads' HO417.out).2.2 t418 p422 q422; cases e422; replace p422 := eq_true p422; replace q422 := eq_true q422) | ((with_reducible refine gate_builtin (b := .append) (xs := #[.tmp 46, .tmp 52]) rfl ?_); at_builtin; refine Kd.R_append (Kd.int .i64) w.heap.size rfl (.tmp 46) (.tmp 52) 25 2 (.int .i64 0) 8 rfl Tryd.underlying25 info2 rfl (by decide) (by omega) u3 x3_1 (rd y415 t418) [.int .i64 (rd y415 t418)] (fun k_ => some k_ ≠ (.slice (some ad422) y415.length co35 : Value).ownBlock) (fun _ => False) rfl rfl ?aP (fun _ hk => hk.elim) ?aF ?aO (Below.refl _ _) ?aS ?aL ?_; (case aP => exact rfl); (case aF => exact (fun k_ hk => Kd.fresh' (Kd.R_lt (by (with_reducible repeat (first | apply Kd.R_alloc | apply Kd.R_drewN | apply Kd.R_drew)); exact HO417.out)) k_ hk)); (case aO => exact (by (with_reducible repeat (first | apply Kd.R_alloc | apply Kd.R_drewN | apply Kd.R_drew)); exact Kd.R_mono HO_3.out (fun _ hk => hk.2))); (case aS => exact (keep_size (w := w) (g := g) (row := none) (by repeat (first | (with_reducible first | exact HK.out | apply KeepBut.set_ | apply keep_drewN | apply keep_drew | apply keep_alloc) | exact HK.out)))); (case aL => have := LMc31.out; omega); intro v424 w36 ho hb hg hat; rw [← Ny423.out] at ho; have n0_ := Aside0.mk (IsS145.grown (by repeat (first | (with_reducible first | exact HI0.out | apply IsS145.alloc | apply IsS145.drewN | apply IsS145.drew | apply IsS145.set_1 | apply IsS145.set_2 | apply IsS145.set_3) | exact HI0.out)) hg (IsS145.own_ne HI0.out HO_3.out (by decide))); have n1_ := Aside0.mk (Kd.R_after (ok := (fun _ => True)) (by (with_reducible repeat (first | apply Kd.R_alloc | apply Kd.R_drewN | apply Kd.R_drew)); exact HO417.out) hg hat); have n2_ := Aside0.mk (below_weaken (by repeat (first | (with_reducible first | exact HB.out | apply below_alloc | apply pw_below_drewN | apply below_drew1 | refine below_set ?_ (IsS145.ge HI0.out)) | exact HB.out)) HL.out hb); have n3_ := Aside0.mk (KeepBut.trans (by repeat (first | (with_reducible first | exact HK.out | apply KeepBut.set_ | apply keep_drewN | apply keep_drew | apply keep_alloc) | exact HK.out)) (KeepBut.of_grown hg g) (Kd.R_base2 HO_3.out)); have n4_ := Aside0.mk (ho); clear HI0; clear HO417; clear HB; clear HK; clear HO_3; have HI0 := n0_; have HO417 := n1_; have HB := n2_; have HK := n3_; have HO425 := n4_; clear n0_ n1_ n2_ n3_ n4_; clear ho hb hg hat))
                        go_roundg kj8
                        case measure => have := HK1.out; have := HJ8.out; omega
                        case rel => exact ⟨(y423), (wrap64 (x4_1 - 1)), (t419), (t420), (t421), (by first | rfl | (simp; done) | (simp [*]; done)), H', ⟨by have := HK1.out; have := HJ8.out; omega⟩, ⟨by (with_reducible repeat (first | apply Kd.R_alloc | apply Kd.R_drewN | apply Kd.R_drew)); exact Kd.R_mono HO425.out (fun _ hk => trivial)⟩, ⟨by repeat (first | (with_reducible first | exact HI0.out | apply IsS145.alloc | apply IsS145.drewN | apply IsS145.drew | apply IsS145.set_1 | apply IsS145.set_2 | apply IsS145.set_3) | exact HI0.out)⟩, ⟨by repeat (first | (with_reducible first | exact HK.out | apply KeepBut.set_ | apply keep_drewN | apply keep_drew | apply keep_alloc) | exact HK.out)⟩, ⟨by repeat (first | (with_reducible first | exact HB.out | apply below_alloc | apply pw_below_drewN | apply below_drew1 | refine below_set ?_ (IsS145.ge HI0.out)) | exact HB.out)⟩⟩
                      · rw [if_neg c31] at H
                        exact absurd H (by simp)
                    · rw [if_neg c30] at H
                      exact absurd H (by simp)
                  · rw [if_neg c29] at H
                    exact absurd H (by simp)
                · rw [if_neg c27] at H
                  have c27b0 : (t393 == 3) = false := beq_eq_false_iff_ne.mpr c27
                  have c27b1 : (t393 != 3) = true := bne_iff_ne.mpr c27
                  by_cases c37 : t393 = 4
                  · rw [if_pos c37] at H
                    have c37b0 : (t393 == 4) = true := beq_iff_eq.mpr c37
                    have c37b1 : (t393 != 4) = false := bne_eq_false_iff_eq.mpr c37
                    clear c37
                    obtain ⟨y426, hy426⟩ : ∃ y_ : List Int, y_ = (([4096, 7936, 7937, 32] : List Int)) := ⟨_, rfl⟩
                    replace H : ((spec_l01Src_n.f s0_0 t394 t395 t396 4).bind fun bt429 => (if 0 ≤ bt429.1 then (if bt429.1 < (y426.length : Int) then (if x3_1.length < 17592186044416 then (spec_l01Src_shapeText.l0 kj8 (x3_1 ++ [rd y426 bt429.1]) (wrap64 (x4_1 - 1)) s0_0 bt429.2.1 bt429.2.2.1 bt429.2.2.2) else (none)) else (none)) else (none))) = some (r1, r2, r3, r4) := by first | (rw [hy426]; with_reducible exact H) | (have H2_ := (Option.bind_some _ _).symm.trans H; rw [hy426]; with_reducible exact H2_) | (have H2_ := (Option.bind_some _ _).symm.trans H; with_reducible exact H2_) | with_reducible exact H | (rw [hy426]; exact H) | exact H
                    have Ny426 := Aside0.mk hy426
                    clear hy426
                    replace H := Option.bind_eq_some_iff.mp H
                    obtain ⟨⟨t429, t430, t431, t432⟩, A380, H⟩ := H
                    replace H : (if 0 ≤ t429 then (if t429 < (y426.length : Int) then (if x3_1.length < 17592186044416 then (spec_l01Src_shapeText.l0 kj8 (x3_1 ++ [rd y426 t429]) (wrap64 (x4_1 - 1)) s0_0 t430 t431 t432) else (none)) else (none)) else (none)) = some (r1, r2, r3, r4) := H
                    have A38 := Aside0.mk A380
                    clear A380
                    by_cases c39 : 0 ≤ t429
                    · rw [if_pos c39] at H
                      have c39b0 : decide (0 ≤ t429) = true := decide_eq_true c39
                      clear c39
                      by_cases c40 : t429 < (y426.length : Int)
                      · rw [if_pos c40] at H
                        have c40b0 : decide (t429 < (y426.length : Int)) = true := decide_eq_true c40
                        clear c40
                        by_cases c41 : x3_1.length < 17592186044416
                        · rw [if_pos c41] at H
                          have LMc41 := Aside0.mk c41
                          clear c41
                          obtain ⟨y434, hy434⟩ : ∃ y_ : List Int, y_ = (x3_1 ++ [rd y426 t429]) := ⟨_, rfl⟩
                          replace H : (spec_l01Src_shapeText.l0 kj8 y434 (wrap64 (x4_1 - 1)) s0_0 t430 t431 t432) = some (r1, r2, r3, r4) := by first | (rw [hy434]; with_reducible exact H) | (have H2_ := (Option.bind_some _ _).symm.trans H; rw [hy434]; with_reducible exact H2_) | (have H2_ := (Option.bind_some _ _).symm.trans H; with_reducible exact H2_) | with_reducible exact H | (rw [hy434]; exact H) | exact H
                          have Ny434 := Aside0.mk hy434
                          clear hy434
                          have H' := Aside0.mk H
                          clear H
                          go_wp2_with (first | ((with_reducible refine gate_dst (N := 57) rfl ?_); refine Kd.R_lit (Kd.int .i64) _ 2 ?hg (N := 57) ?hd (xs := ([4096, 7936, 7937, 32] : List Int)) (inner := [.int .i64 4096, .int .i64 7936, .int .i64 7937, .int .i64 32]) (ok := fun _ => True) (okp := fun _ => True) ?hr ?hp (fun _ hk => hk) trivial (Below.refl _ _) (Nat.le_refl _) (by simp) ?_; (case hd => rfl); (case hg => rfl); (case hr => first | (go_simp; done) | (go_simp; rfl)); (case hp => exact (Reps.one (show Kd.M (Kd.int .i64) _ _ _ 4096 [.int .i64 4096] from rfl) (Reps.one (show Kd.M (Kd.int .i64) _ _ _ 7936 [.int .i64 7936] from rfl) (Reps.one (show Kd.M (Kd.int .i64) _ _ _ 7937 [.int .i64 7937] from rfl) (Reps.one (show Kd.M (Kd.int .i64) _ _ _ 32 [.int .i64 32] from rfl) (Reps.none _ _)))))); intro v427 w42 ho43 hb hg_ hnew_; clear hg_ hnew_; (first | rw [← Ny426.out] at ho43 | (simp only [Int.reduceToNat] at ho43; rw [← Ny426.out] at ho43)); have n0_ := Aside0.mk (Kd.R_elder' (by (with_reducible repeat (first | apply Kd.R_alloc | apply Kd.R_drewN | apply Kd.R_drew)); exact HO_3.out) (Kd.R_base ho43) hb); have n1_ := Aside0.mk (Kd.R_lower (Kd.R_new' ho43 (Kd.R_lt (by (with_reducible repeat (first | apply Kd.R_alloc | apply Kd.R_drewN | apply Kd.R_drew)); exact HO_3.out))) (keep_size (w := w) (g := g) (row := none) (by repeat (first | (with_reducible first | exact HK.out | apply KeepBut.set_ | apply keep_drewN | apply keep_drew | apply keep_alloc) | exact HK.out)))); have n2_ := Aside0.mk (IsS145.below (by repeat (first | (with_reducible first | exact HI0.out | apply IsS145.alloc | apply IsS145.drewN | apply IsS145.drew | apply IsS145.set_1 | apply IsS145.set_2 | apply IsS145.set_3) | exact HI0.out)) hb); have n3_ := Aside0.mk (KeepBut.trans (by repeat (first | (with_reducible first | exact HK.out | apply KeepBut.set_ | apply keep_drewN | apply keep_drew | apply keep_alloc) | exact HK.out)) (KeepBut.of_below hb g none) (.inl rfl)); have n4_ := Aside0.mk (below_step (by repeat (first | (with_reducible first | exact HB.out | apply below_alloc | apply pw_below_drewN | apply below_drew1 | refine below_set ?_ (IsS145.ge HI0.out)) | exact HB.out)) hb); clear HO_3; clear HI0; clear HK; clear HB; have HO_3 := n0_; have HO428 := n1_; have HI0 := n2_; have HK := n3_; have HB := n4_; clear n0_ n1_ n2_ n3_ n4_; clear hb ho43) | ((with_reducible refine gate_callee (f := 94) rfl ?_); refine goesL_ (some 59) rfl rfl Tryd.func94 (by kernel_rfl) rfl #[.pointer (some ⟨g, 0, none⟩), .int .i64 4] rfl (by (try simp only [List.map_toArray, List.map_cons, List.map_nil]); first | done | rfl | (simp only [List.length_drop, List.length_take]; rfl)) ?_; (with_reducible refine (spec_l01Src_n.calls g s0_0 t394 t395 t396 4 t429 t430 t431 t432 w0 _ ?side1 ?side2 A38.out).mono ?_); (case side1 => repeat (first | (with_reducible first | exact HI0.out | apply IsS145.alloc | apply IsS145.drewN | apply IsS145.drew | apply IsS145.set_1 | apply IsS145.set_2 | apply IsS145.set_3) | exact HI0.out)); (case side2 => repeat (first | (with_reducible first | exact HB.out | apply below_alloc | apply pw_below_drewN | apply below_drew1 | refine below_set ?_ (IsS145.ge HI0.out)) | exact HB.out)); rintro e w44 ⟨rfl, hi, hb, hk⟩; refine ⟨_, rfl, ?_⟩; have n0_ := Aside0.mk (Kd.R_mono (Kd.R_keep (IsS145.apart (show IsS145 w0 _ g s0_0 t394 t395 t396 from by repeat (first | (with_reducible first | exact HI0.out | apply IsS145.alloc | apply IsS145.drewN | apply IsS145.drew | apply IsS145.set_1 | apply IsS145.set_2 | apply IsS145.set_3) | exact HI0.out)) (by (with_reducible repeat (first | apply Kd.R_alloc | apply Kd.R_drewN | apply Kd.R_drew)); exact HO_3.out) (by decide)) hk (fun _ h => h.2)) (fun _ h => h.1)); have n1_ := Aside0.mk (Kd.R_mono (Kd.R_keep (IsS145.apart (show IsS145 w0 _ g s0_0 t394 t395 t396 from by repeat (first | (with_reducible first | exact HI0.out | apply IsS145.alloc | apply IsS145.drewN | apply IsS145.drew | apply IsS145.set_1 | apply IsS145.set_2 | apply IsS145.set_3) | exact HI0.out)) (by (with_reducible repeat (first | apply Kd.R_alloc | apply Kd.R_drewN | apply Kd.R_drew)); exact HO428.out) (by decide)) hk (fun _ h => h.2)) (fun _ h => h.1)); have n2_ := Aside0.mk (KeepBut.trans (by repeat (first | (with_reducible first | exact HK.out | apply KeepBut.set_ | apply keep_drewN | apply keep_drew | apply keep_alloc) | exact HK.out)) hk (.inl rfl)); have n3_ := Aside0.mk (hb); have n4_ := Aside0.mk (hi); clear HO_3; clear HO428; clear HK; clear HB; clear HI0; have HO_3 := n0_; have HO428 := n1_; have HK := n2_; have HB := n3_; have HI0 := n4_; clear n0_ n1_ n2_ n3_ n4_; (try clear hb); (try clear hb2); (try clear hk); (try clear hi); obtain ⟨Ao45, co45, eo45⟩ := Kd.R_slice HO428.out; subst eo45; have p433 : 0 ≤ (t429 : Int) := of_decide_eq_true (by first | (with_reducible assumption) | assumption); have q433 : t429 < (y426.length : Int) := of_decide_eq_true (by first | (with_reducible assumption) | assumption); obtain ⟨ad433, e433, hx433_0⟩ := Kd.at_int (Kd.R_reads' HO428.out).2.2 t429 p433 q433; cases e433; replace p433 := eq_true p433; replace q433 := eq_true q433) | ((with_reducible refine gate_builtin (b := .append) (xs := #[.tmp 56, .tmp 62]) rfl ?_); at_builtin; refine Kd.R_append (Kd.int .i64) w.heap.size rfl (.tmp 56) (.tmp 62) 25 2 (.int .i64 0) 8 rfl Tryd.underlying25 info2 rfl (by decide) (by omega) u3 x3_1 (rd y426 t429) [.int .i64 (rd y426 t429)] (fun k_ => some k_ ≠ (.slice (some ad433) y426.length co45 : Value).ownBlock) (fun _ => False) rfl rfl ?aP (fun _ hk => hk.elim) ?aF ?aO (Below.refl _ _) ?aS ?aL ?_; (case aP => exact rfl); (case aF => exact (fun k_ hk => Kd.fresh' (Kd.R_lt (by (with_reducible repeat (first | apply Kd.R_alloc | apply Kd.R_drewN | apply Kd.R_drew)); exact HO428.out)) k_ hk)); (case aO => exact (by (with_reducible repeat (first | apply Kd.R_alloc | apply Kd.R_drewN | apply Kd.R_drew)); exact Kd.R_mono HO_3.out (fun _ hk => hk.2))); (case aS => exact (keep_size (w := w) (g := g) (row := none) (by repeat (first | (with_reducible first | exact HK.out | apply KeepBut.set_ | apply keep_drewN | apply keep_drew | apply keep_alloc) | exact HK.out)))); (case aL => have := LMc41.out; omega); intro v435 w46 ho hb hg hat; rw [← Ny434.out] at ho; have n0_ := Aside0.mk (IsS145.grown (by repeat (first | (with_reducible first | exact HI0.out | apply IsS145.alloc | apply IsS145.drewN | apply IsS145.drew | apply IsS145.set_1 | apply IsS145.set_2 | apply IsS145.set_3) | exact HI0.out)) hg (IsS145.own_ne HI0.out HO_3.out (by decide))); have n1_ := Aside0.mk (Kd.R_after (ok := (fun _ => True)) (by (with_reducible repeat (first | apply Kd.R_alloc | apply Kd.R_drewN | apply Kd.R_drew)); exact HO428.out) hg hat); have n2_ := Aside0.mk (below_weaken (by repeat (first | (with_reducible first | exact HB.out | apply below_alloc | apply pw_below_drewN | apply below_drew1 | refine below_set ?_ (IsS145.ge HI0.out)) | exact HB.out)) HL.out hb); have n3_ := Aside0.mk (KeepBut.trans (by repeat (first | (with_reducible first | exact HK.out | apply KeepBut.set_ | apply keep_drewN | apply keep_drew | apply keep_alloc) | exact HK.out)) (KeepBut.of_grown hg g) (Kd.R_base2 HO_3.out)); have n4_ := Aside0.mk (ho); clear HI0; clear HO428; clear HB; clear HK; clear HO_3; have HI0 := n0_; have HO428 := n1_; have HB := n2_; have HK := n3_; have HO436 := n4_; clear n0_ n1_ n2_ n3_ n4_; clear ho hb hg hat))
                          go_roundg kj8
                          case measure => have := HK1.out; have := HJ8.out; omega
                          case rel => exact ⟨(y434), (wrap64 (x4_1 - 1)), (t430), (t431), (t432), (by first | rfl | (simp; done) | (simp [*]; done)), H', ⟨by have := HK1.out; have := HJ8.out; omega⟩, ⟨by (with_reducible repeat (first | apply Kd.R_alloc | apply Kd.R_drewN | apply Kd.R_drew)); exact Kd.R_mono HO436.out (fun _ hk => trivial)⟩, ⟨by repeat (first | (with_reducible first | exact HI0.out | apply IsS145.alloc | apply IsS145.drewN | apply IsS145.drew | apply IsS145.set_1 | apply IsS145.set_2 | apply IsS145.set_3) | exact HI0.out)⟩, ⟨by repeat (first | (with_reducible first | exact HK.out | apply KeepBut.set_ | apply keep_drewN | apply keep_drew | apply keep_alloc) | exact HK.out)⟩, ⟨by repeat (first | (with_reducible first | exact HB.out | apply below_alloc | apply pw_below_drewN | apply below_drew1 | refine below_set ?_ (IsS145.ge HI0.out)) | exact HB.out)⟩⟩
                        · rw [if_neg c41] at H
                          exact absurd H (by simp)
                      · rw [if_neg c40] at H
                        exact absurd H (by simp)
                    · rw [if_neg c39] at H
                      exact absurd H (by simp)
                  · rw [if_neg c37] at H
                    have c37b0 : (t393 == 4) = false := beq_eq_false_iff_ne.mpr c37
                    have c37b1 : (t393 != 4) = true := bne_iff_ne.mpr c37
                    by_cases c47 : t393 = 5
                    · rw [if_pos c47] at H
                      have c47b0 : (t393 == 5) = true := beq_iff_eq.mpr c47
                      have c47b1 : (t393 != 5) = false := bne_eq_false_iff_eq.mpr c47
                      clear c47
                      replace H := Option.bind_eq_some_iff.mp H
                      obtain ⟨⟨t437, t438, t439, t440⟩, A480, H⟩ := H
                      replace H : (if x3_1.length < 17592186044416 then (spec_l01Src_shapeText.l0 kj8 (x3_1 ++ [wrap64 (97 + t437)]) (wrap64 (x4_1 - 1)) s0_0 t438 t439 t440) else (none)) = some (r1, r2, r3, r4) := H
                      have A48 := Aside0.mk A480
                      clear A480
                      by_cases c49 : x3_1.length < 17592186044416
                      · rw [if_pos c49] at H
                        have LMc49 := Aside0.mk c49
                        clear c49
                        obtain ⟨y441, hy441⟩ : ∃ y_ : List Int, y_ = (x3_1 ++ [wrap64 (97 + t437)]) := ⟨_, rfl⟩
                        replace H : (spec_l01Src_shapeText.l0 kj8 y441 (wrap64 (x4_1 - 1)) s0_0 t438 t439 t440) = some (r1, r2, r3, r4) := by first | (rw [hy441]; with_reducible exact H) | (have H2_ := (Option.bind_some _ _).symm.trans H; rw [hy441]; with_reducible exact H2_) | (have H2_ := (Option.bind_some _ _).symm.trans H; with_reducible exact H2_) | with_reducible exact H | (rw [hy441]; exact H) | exact H
                        have Ny441 := Aside0.mk hy441
                        clear hy441
                        have H' := Aside0.mk H
                        clear H
                        go_wp2_with (first | ((with_reducible refine gate_callee (f := 94) rfl ?_); refine goesL_ (some 68) rfl rfl Tryd.func94 (by kernel_rfl) rfl #[.pointer (some ⟨g, 0, none⟩), .int .i64 3] rfl (by (try simp only [List.map_toArray, List.map_cons, List.map_nil]); first | done | rfl | (simp only [List.length_drop, List.length_take]; rfl)) ?_; (with_reducible refine (spec_l01Src_n.calls g s0_0 t394 t395 t396 3 t437 t438 t439 t440 w0 _ ?side1 ?side2 A48.out).mono ?_); (case side1 => repeat (first | (with_reducible first | exact HI0.out | apply IsS145.alloc | apply IsS145.drewN | apply IsS145.drew | apply IsS145.set_1 | apply IsS145.set_2 | apply IsS145.set_3) | exact HI0.out)); (case side2 => repeat (first | (with_reducible first | exact HB.out | apply below_alloc | apply pw_below_drewN | apply below_drew1 | refine below_set ?_ (IsS145.ge HI0.out)) | exact HB.out)); rintro e w50 ⟨rfl, hi, hb, hk⟩; refine ⟨_, rfl, ?_⟩; have n0_ := Aside0.mk (Kd.R_mono (Kd.R_keep (IsS145.apart (show IsS145 w0 _ g s0_0 t394 t395 t396 from by repeat (first | (with_reducible first | exact HI0.out | apply IsS145.alloc | apply IsS145.drewN | apply IsS145.drew | apply IsS145.set_1 | apply IsS145.set_2 | apply IsS145.set_3) | exact HI0.out)) (by (with_reducible repeat (first | apply Kd.R_alloc | apply Kd.R_drewN | apply Kd.R_drew)); exact HO_3.out) (by decide)) hk (fun _ h => h.2)) (fun _ h => h.1)); have n1_ := Aside0.mk (KeepBut.trans (by repeat (first | (with_reducible first | exact HK.out | apply KeepBut.set_ | apply keep_drewN | apply keep_drew | apply keep_alloc) | exact HK.out)) hk (.inl rfl)); have n2_ := Aside0.mk (hb); have n3_ := Aside0.mk (hi); clear HO_3; clear HK; clear HB; clear HI0; have HO_3 := n0_; have HK := n1_; have HB := n2_; have HI0 := n3_; clear n0_ n1_ n2_ n3_; (try clear hb); (try clear hb2); (try clear hk); (try clear hi)) | ((with_reducible refine gate_builtin (b := .append) (xs := #[.tmp 66, .tmp 70]) rfl ?_); at_builtin; refine Kd.R_append (Kd.int .i64) w.heap.size rfl (.tmp 66) (.tmp 70) 25 2 (.int .i64 0) 8 rfl Tryd.underlying25 info2 rfl (by decide) (by omega) u3 x3_1 (wrap64 (97 + t437)) [.int .i64 (wrap64 (97 + t437))] (fun _ => True) (fun _ => False) rfl rfl ?aP (fun _ hk => hk.elim) ?aF ?aO (Below.refl _ _) ?aS ?aL ?_; (case aP => exact rfl); (case aF => exact (fun _ _ => trivial)); (case aO => exact (by (with_reducible repeat (first | apply Kd.R_alloc | apply Kd.R_drewN | apply Kd.R_drew)); exact HO_3.out)); (case aS => exact (keep_size (w := w) (g := g) (row := none) (by repeat (first | (with_reducible first | exact HK.out | apply KeepBut.set_ | apply keep_drewN | apply keep_drew | apply keep_alloc) | exact HK.out)))); (case aL => have := LMc49.out; omega); intro v442 w51 ho hb hg hat; rw [← Ny441.out] at ho; have n0_ := Aside0.mk (IsS145.grown (by repeat (first | (with_reducible first | exact HI0.out | apply IsS145.alloc | apply IsS145.drewN | apply IsS145.drew | apply IsS145.set_1 | apply IsS145.set_2 | apply IsS145.set_3) | exact HI0.out)) hg (IsS145.own_ne HI0.out HO_3.out (by decide))); have n1_ := Aside0.mk (below_weaken (by repeat (first | (with_reducible first | exact HB.out | apply below_alloc | apply pw_below_drewN | apply below_drew1 | refine below_set ?_ (IsS145.ge HI0.out)) | exact HB.out)) HL.out hb); have n2_ := Aside0.mk (KeepBut.trans (by repeat (first | (with_reducible first | exact HK.out | apply KeepBut.set_ | apply keep_drewN | apply keep_drew | apply keep_alloc) | exact HK.out)) (KeepBut.of_grown hg g) (Kd.R_base2 HO_3.out)); have n3_ := Aside0.mk (ho); clear HI0; clear HB; clear HK; clear HO_3; have HI0 := n0_; have HB := n1_; have HK := n2_; have HO443 := n3_; clear n0_ n1_ n2_ n3_; clear ho hb hg hat))
                        go_roundg kj8
                        case measure => have := HK1.out; have := HJ8.out; omega
                        case rel => exact ⟨(y441), (wrap64 (x4_1 - 1)), (t438), (t439), (t440), (by first | rfl | (simp; done) | (simp [*]; done)), H', ⟨by have := HK1.out; have := HJ8.out; omega⟩, ⟨by (with_reducible repeat (first | apply Kd.R_alloc | apply Kd.R_drewN | apply Kd.R_drew)); exact HO443.out⟩, ⟨by repeat (first | (with_reducible first | exact HI0.out | apply IsS145.alloc | apply IsS145.drewN | apply IsS145.drew | apply IsS145.set_1 | apply IsS145.set_2 | apply IsS145.set_3) | exact HI0.out)⟩, ⟨by repeat (first | (with_reducible first | exact HK.out | apply KeepBut.set_ | apply keep_drewN | apply keep_drew | apply keep_alloc) | exact HK.out)⟩, ⟨by repeat (first | (with_reducible first | exact HB.out | apply below_alloc | apply pw_below_drewN | apply below_drew1 | refine below_set ?_ (IsS145.ge HI0.out)) | exact HB.out)⟩⟩
                      · rw [if_neg c49] at H
                        exact absurd H (by simp)
                    · rw [if_neg c47] at H
                      have c47b0 : (t393 == 5) = false := beq_eq_false_iff_ne.mpr c47
                      have c47b1 : (t393 != 5) = true := bne_iff_ne.mpr c47
                      replace H := Option.bind_eq_some_iff.mp H
                      obtain ⟨⟨t444, t445, t446, t447⟩, A520, H⟩ := H
                      replace H : (if x3_1.length < 17592186044416 then (spec_l01Src_shapeText.l0 kj8 (x3_1 ++ [t444]) (wrap64 (x4_1 - 1)) s0_0 t445 t446 t447) else (none)) = some (r1, r2, r3, r4) := H
                      have A52 := Aside0.mk A520
                      clear A520
                      by_cases c53 : x3_1.length < 17592186044416
                      · rw [if_pos c53] at H
                        have LMc53 := Aside0.mk c53
                        clear c53
                        obtain ⟨y448, hy448⟩ : ∃ y_ : List Int, y_ = (x3_1 ++ [t444]) := ⟨_, rfl⟩
                        replace H : (spec_l01Src_shapeText.l0 kj8 y448 (wrap64 (x4_1 - 1)) s0_0 t445 t446 t447) = some (r1, r2, r3, r4) := by first | (rw [hy448]; with_reducible exact H) | (have H2_ := (Option.bind_some _ _).symm.trans H; rw [hy448]; with_reducible exact H2_) | (have H2_ := (Option.bind_some _ _).symm.trans H; with_reducible exact H2_) | with_reducible exact H | (rw [hy448]; exact H) | exact H
                        have Ny448 := Aside0.mk hy448
                        clear hy448
                        have H' := Aside0.mk H
                        clear H
                        go_wp2_with (first | ((with_reducible refine gate_callee (f := 154) rfl ?_); refine goesL_ (some 22) rfl rfl Tryd.func154 (by kernel_rfl) rfl #[.pointer (some ⟨g, 0, none⟩)] rfl (by (try simp only [List.map_toArray, List.map_cons, List.map_nil]); first | done | rfl | (simp only [List.length_drop, List.length_take]; rfl)) ?_; (with_reducible refine (spec_l01Src_point.calls kj8 g s0_0 t394 t395 t396 t444 t445 t446 t447 w0 _ ?side1 ?side2 A52.out).mono ?_); (case side1 => repeat (first | (with_reducible first | exact HI0.out | apply IsS145.alloc | apply IsS145.drewN | apply IsS145.drew | apply IsS145.set_1 | apply IsS145.set_2 | apply IsS145.set_3) | exact HI0.out)); (case side2 => repeat (first | (with_reducible first | exact HB.out | apply below_alloc | apply pw_below_drewN | apply below_drew1 | refine below_set ?_ (IsS145.ge HI0.out)) | exact HB.out)); rintro e w54 ⟨rfl, hi, hb, hk⟩; refine ⟨_, rfl, ?_⟩; have n0_ := Aside0.mk (Kd.R_mono (Kd.R_keep (IsS145.apart (show IsS145 w0 _ g s0_0 t394 t395 t396 from by repeat (first | (with_reducible first | exact HI0.out | apply IsS145.alloc | apply IsS145.drewN | apply IsS145.drew | apply IsS145.set_1 | apply IsS145.set_2 | apply IsS145.set_3) | exact HI0.out)) (by (with_reducible repeat (first | apply Kd.R_alloc | apply Kd.R_drewN | apply Kd.R_drew)); exact HO_3.out) (by decide)) hk (fun _ h => h.2)) (fun _ h => h.1)); have n1_ := Aside0.mk (KeepBut.trans (by repeat (first | (with_reducible first | exact HK.out | apply KeepBut.set_ | apply keep_drewN | apply keep_drew | apply keep_alloc) | exact HK.out)) hk (.inl rfl)); have n2_ := Aside0.mk (hb); have n3_ := Aside0.mk (hi); clear HO_3; clear HK; clear HB; clear HI0; have HO_3 := n0_; have HK := n1_; have HB := n2_; have HI0 := n3_; clear n0_ n1_ n2_ n3_; (try clear hb); (try clear hb2); (try clear hk); (try clear hi)) | ((with_reducible refine gate_builtin (b := .append) (xs := #[.tmp 20, .tmp 23]) rfl ?_); at_builtin; refine Kd.R_append (Kd.int .i64) w.heap.size rfl (.tmp 20) (.tmp 23) 25 2 (.int .i64 0) 8 rfl Tryd.underlying25 info2 rfl (by decide) (by omega) u3 x3_1 t444 [.int .i64 t444] (fun _ => True) (fun _ => False) rfl rfl ?aP (fun _ hk => hk.elim) ?aF ?aO (Below.refl _ _) ?aS ?aL ?_; (case aP => exact rfl); (case aF => exact (fun _ _ => trivial)); (case aO => exact (by (with_reducible repeat (first | apply Kd.R_alloc | apply Kd.R_drewN | apply Kd.R_drew)); exact HO_3.out)); (case aS => exact (keep_size (w := w) (g := g) (row := none) (by repeat (first | (with_reducible first | exact HK.out | apply KeepBut.set_ | apply keep_drewN | apply keep_drew | apply keep_alloc) | exact HK.out)))); (case aL => have := LMc53.out; omega); intro v449 w55 ho hb hg hat; rw [← Ny448.out] at ho; have n0_ := Aside0.mk (IsS145.grown (by repeat (first | (with_reducible first | exact HI0.out | apply IsS145.alloc | apply IsS145.drewN | apply IsS145.drew | apply IsS145.set_1 | apply IsS145.set_2 | apply IsS145.set_3) | exact HI0.out)) hg (IsS145.own_ne HI0.out HO_3.out (by decide))); have n1_ := Aside0.mk (below_weaken (by repeat (first | (with_reducible first | exact HB.out | apply below_alloc | apply pw_below_drewN | apply below_drew1 | refine below_set ?_ (IsS145.ge HI0.out)) | exact HB.out)) HL.out hb); have n2_ := Aside0.mk (KeepBut.trans (by repeat (first | (with_reducible first | exact HK.out | apply KeepBut.set_ | apply keep_drewN | apply keep_drew | apply keep_alloc) | exact HK.out)) (KeepBut.of_grown hg g) (Kd.R_base2 HO_3.out)); have n3_ := Aside0.mk (ho); clear HI0; clear HB; clear HK; clear HO_3; have HI0 := n0_; have HB := n1_; have HK := n2_; have HO450 := n3_; clear n0_ n1_ n2_ n3_; clear ho hb hg hat))
                        go_roundg kj8
                        case measure => have := HK1.out; have := HJ8.out; omega
                        case rel => exact ⟨(y448), (wrap64 (x4_1 - 1)), (t445), (t446), (t447), (by first | rfl | (simp; done) | (simp [*]; done)), H', ⟨by have := HK1.out; have := HJ8.out; omega⟩, ⟨by (with_reducible repeat (first | apply Kd.R_alloc | apply Kd.R_drewN | apply Kd.R_drew)); exact HO450.out⟩, ⟨by repeat (first | (with_reducible first | exact HI0.out | apply IsS145.alloc | apply IsS145.drewN | apply IsS145.drew | apply IsS145.set_1 | apply IsS145.set_2 | apply IsS145.set_3) | exact HI0.out)⟩, ⟨by repeat (first | (with_reducible first | exact HK.out | apply KeepBut.set_ | apply keep_drewN | apply keep_drew | apply keep_alloc) | exact HK.out)⟩, ⟨by repeat (first | (with_reducible first | exact HB.out | apply below_alloc | apply pw_below_drewN | apply below_drew1 | refine below_set ?_ (IsS145.ge HI0.out)) | exact HB.out)⟩⟩
                      · rw [if_neg c53] at H
                        exact absurd H (by simp)
      · rw [if_neg c7] at H
        have c7b0 : decide (0 < x4_1) = false := decide_eq_false c7
        clear c7
        replace H := Option.bind_eq_some_iff.mp H
        obtain ⟨t451, A560, H⟩ := H
        replace H : ((spec_l01Src_one.f s0_0 x1001_1 x1002_1 x1003_1 25).bind fun bt452 => (if bt452.1 = true then ((spec_l01Src_spoil.f k1 s0_0 bt452.2.1 bt452.2.2.1 bt452.2.2.2 t451).bind fun bt456 => (spec_l01Src_shapeText.j2 k1 bt456.1 s0_0 bt456.2.1 bt456.2.2.1 bt456.2.2.2)) else (spec_l01Src_shapeText.j2 k1 t451 s0_0 bt452.2.1 bt452.2.2.1 bt452.2.2.2))) = some (r1, r2, r3, r4) := H
        have A56 := Aside0.mk A560
        clear A560
        replace H := Option.bind_eq_some_iff.mp H
        obtain ⟨⟨t452, t453, t454, t455⟩, A570, H⟩ := H
        replace H : (if t452 = true then ((spec_l01Src_spoil.f k1 s0_0 t453 t454 t455 t451).bind fun bt456 => (spec_l01Src_shapeText.j2 k1 bt456.1 s0_0 bt456.2.1 bt456.2.2.1 bt456.2.2.2)) else (spec_l01Src_shapeText.j2 k1 t451 s0_0 t453 t454 t455)) = some (r1, r2, r3, r4) := H
        have A57 := Aside0.mk A570
        clear A570
        have HC58 := Aside0.mk H
        clear H
        obtain ⟨Ao59, co59, eo59⟩ := Kd.R_slice HO_3.out
        subst eo59
        go_upto_if 75 with (first | ((with_reducible refine gate_callee (f := 107) rfl ?_); refine goesL_ (some 73) rfl rfl Tryd.func107 (by kernel_rfl) rfl #[.slice Ao59 x3_1.length co59] rfl (by (try simp only [List.map_toArray, List.map_cons, List.map_nil]); first | done | rfl | (simp only [List.length_drop, List.length_take]; rfl)) ?_; (with_reducible refine (W_spec_l01Text.calls _ _ x3_1 t451 _ ?side1 ?side2 A56.out).mono ?_); (case side1 => repeat (first | exact (Kd.R_reads' HO_3.out).2.2 | (with_reducible refine Kd.C_alloc ?_ _) | (with_reducible refine Kd.C_drewN ?_ _) | (with_reducible refine Kd.C_drew ?_))); (case side2 => exact (Kd.R_reads' HO_3.out).2.1); rintro e w60 ⟨rfl, hb⟩; refine ⟨_, rfl, ?_⟩; have n0_ := Aside0.mk (Kd.R_below (by (with_reducible repeat (first | apply Kd.R_alloc | apply Kd.R_drewN | apply Kd.R_drew)); exact HO_3.out) hb); have n1_ := Aside0.mk (IsS145.below (by repeat (first | (with_reducible first | exact HI0.out | apply IsS145.alloc | apply IsS145.drewN | apply IsS145.drew | apply IsS145.set_1 | apply IsS145.set_2 | apply IsS145.set_3) | exact HI0.out)) hb); have n2_ := Aside0.mk (KeepBut.trans (by repeat (first | (with_reducible first | exact HK.out | apply KeepBut.set_ | apply keep_drewN | apply keep_drew | apply keep_alloc) | exact HK.out)) (KeepBut.of_below hb g none) (.inl rfl)); have n3_ := Aside0.mk (below_step (by repeat (first | (with_reducible first | exact HB.out | apply below_alloc | apply pw_below_drewN | apply below_drew1 | refine below_set ?_ (IsS145.ge HI0.out)) | exact HB.out)) hb); clear HO_3; clear HI0; clear HK; clear HB; have HO_3 := n0_; have HI0 := n1_; have HK := n2_; have HB := n3_; clear n0_ n1_ n2_ n3_; (try clear hb); (try clear hb2); (try clear hk); (try clear hi)) | ((with_reducible refine gate_callee (f := 91) rfl ?_); refine goesL_ (some 75) rfl rfl Tryd.func91 (by kernel_rfl) rfl #[.pointer (some ⟨g, 0, none⟩), .int .i64 25] rfl (by (try simp only [List.map_toArray, List.map_cons, List.map_nil]); first | done | rfl | (simp only [List.length_drop, List.length_take]; rfl)) ?_; (with_reducible refine (spec_l01Src_one.calls g s0_0 x1001_1 x1002_1 x1003_1 25 t452 t453 t454 t455 w0 _ ?side1 ?side2 A57.out).mono ?_); (case side1 => repeat (first | (with_reducible first | exact HI0.out | apply IsS145.alloc | apply IsS145.drewN | apply IsS145.drew | apply IsS145.set_1 | apply IsS145.set_2 | apply IsS145.set_3) | exact HI0.out)); (case side2 => repeat (first | (with_reducible first | exact HB.out | apply below_alloc | apply pw_below_drewN | apply below_drew1 | refine below_set ?_ (IsS145.ge HI0.out)) | exact HB.out)); rintro e w61 ⟨rfl, hi, hb, hk⟩; refine ⟨_, rfl, ?_⟩; have n0_ := Aside0.mk (Kd.R_mono (Kd.R_keep (IsS145.apart (show IsS145 w0 _ g s0_0 x1001_1 x1002_1 x1003_1 from by repeat (first | (with_reducible first | exact HI0.out | apply IsS145.alloc | apply IsS145.drewN | apply IsS145.drew | apply IsS145.set_1 | apply IsS145.set_2 | apply IsS145.set_3) | exact HI0.out)) (by (with_reducible repeat (first | apply Kd.R_alloc | apply Kd.R_drewN | apply Kd.R_drew)); exact HO_3.out) (by decide)) hk (fun _ h => h.2)) (fun _ h => h.1)); have n1_ := Aside0.mk (KeepBut.trans (by repeat (first | (with_reducible first | exact HK.out | apply KeepBut.set_ | apply keep_drewN | apply keep_drew | apply keep_alloc) | exact HK.out)) hk (.inl rfl)); have n2_ := Aside0.mk (hb); have n3_ := Aside0.mk (hi); clear HO_3; clear HK; clear HB; clear HI0; have HO_3 := n0_; have HK := n1_; have HB := n2_; have HI0 := n3_; clear n0_ n1_ n2_ n3_; (try clear hb); (try clear hb2); (try clear hk); (try clear hi)))
        (try simp only [Act.put, List.setIfInBounds_toArray, List.set_cons_zero, List.set_cons_succ])
        go_cut [5] (fun v5 wc => ∃ (kq : Nat) (x5_57 : ByteArray) (x1001_57 : Int) (x1002_57 : Int) (x1003_57 : Int), v5 = .string x5_57 ∧ Aside0 (spec_l01Src_shapeText.j2 kq x5_57 s0_0 x1001_57 x1002_57 x1003_57 = some (r1, r2, r3, r4)) ∧ Aside0 (kq ≤ k1) ∧ Aside0 (IsS145 w0 wc g s0_0 x1001_57 x1002_57 x1003_57) ∧ Aside0 (KeepBut w wc g none) ∧ Aside0 (Below w0.heap.size w0 wc))
        case first =>
          have H := HC58.out
          clear HC58
          by_cases c62 : t452 = true
          · subst c62
            have H1 : ((spec_l01Src_spoil.f k1 s0_0 t453 t454 t455 t451).bind fun bt456 => (spec_l01Src_shapeText.j2 k1 bt456.1 s0_0 bt456.2.1 bt456.2.2.1 bt456.2.2.2)) = some (r1, r2, r3, r4) := by rw [if_pos rfl] at H; exact H
            clear H
            have H := H1
            clear H1
            replace H := Option.bind_eq_some_iff.mp H
            obtain ⟨⟨t456, t457, t458, t459⟩, A630, H⟩ := H
            replace H : (spec_l01Src_shapeText.j2 k1 t456 s0_0 t457 t458 t459) = some (r1, r2, r3, r4) := H
            have A63 := Aside0.mk A630
            clear A630
            have H' := Aside0.mk H
            clear H
            go_wp2_with (first | ((with_reducible refine gate_callee (f := 162) rfl ?_); refine goesL_ (some 78) rfl rfl Tryd.func162 (by kernel_rfl) rfl #[.pointer (some ⟨g, 0, none⟩), .string t451] rfl (by (try simp only [List.map_toArray, List.map_cons, List.map_nil]); first | done | rfl | (simp only [List.length_drop, List.length_take]; rfl)) ?_; (with_reducible refine (spec_l01Src_spoil.calls k1 g s0_0 t453 t454 t455 t451 t456 t457 t458 t459 w0 _ ?side1 ?side2 A63.out).mono ?_); (case side1 => repeat (first | (with_reducible first | exact HI0.out | apply IsS145.alloc | apply IsS145.drewN | apply IsS145.drew | apply IsS145.set_1 | apply IsS145.set_2 | apply IsS145.set_3) | exact HI0.out)); (case side2 => repeat (first | (with_reducible first | exact HB.out | apply below_alloc | apply pw_below_drewN | apply below_drew1 | refine below_set ?_ (IsS145.ge HI0.out)) | exact HB.out)); rintro e w64 ⟨rfl, hi, hb, hk⟩; refine ⟨_, rfl, ?_⟩; have n0_ := Aside0.mk (Kd.R_mono (Kd.R_keep (IsS145.apart (show IsS145 w0 _ g s0_0 t453 t454 t455 from by repeat (first | (with_reducible first | exact HI0.out | apply IsS145.alloc | apply IsS145.drewN | apply IsS145.drew | apply IsS145.set_1 | apply IsS145.set_2 | apply IsS145.set_3) | exact HI0.out)) (by (with_reducible repeat (first | apply Kd.R_alloc | apply Kd.R_drewN | apply Kd.R_drew)); exact HO_3.out) (by decide)) hk (fun _ h => h.2)) (fun _ h => h.1)); have n1_ := Aside0.mk (KeepBut.trans (by repeat (first | (with_reducible first | exact HK.out | apply KeepBut.set_ | apply keep_drewN | apply keep_drew | apply keep_alloc) | exact HK.out)) hk (.inl rfl)); have n2_ := Aside0.mk (hb); have n3_ := Aside0.mk (hi); clear HO_3; clear HK; clear HB; clear HI0; have HO_3 := n0_; have HK := n1_; have HB := n2_; have HI0 := n3_; clear n0_ n1_ n2_ n3_; (try clear hb); (try clear hb2); (try clear hk); (try clear hi)))
            go_meet
            case rel => exact ⟨_, (t456), (t457), (t458), (t459), (by first | rfl | (simp; done) | (simp [*]; done)), H', ⟨by have := HK1.out; first | omega | exact Nat.le_refl _⟩, ⟨by repeat (first | (with_reducible first | exact HI0.out | apply IsS145.alloc | apply IsS145.drewN | apply IsS145.drew | apply IsS145.set_1 | apply IsS145.set_2 | apply IsS145.set_3) | exact HI0.out)⟩, ⟨by repeat (first | (with_reducible first | exact HK.out | apply KeepBut.set_ | apply keep_drewN | apply keep_drew | apply keep_alloc) | exact HK.out)⟩, ⟨by repeat (first | (with_reducible first | exact HB.out | apply below_alloc | apply pw_below_drewN | apply below_drew1 | refine below_set ?_ (IsS145.ge HI0.out)) | exact HB.out)⟩⟩
          · replace c62 := Bool.eq_false_iff.mpr c62
            subst c62
            have H1 : (spec_l01Src_shapeText.j2 k1 t451 s0_0 t453 t454 t455) = some (r1, r2, r3, r4) := by rw [if_neg (show ¬ (false = true) by decide)] at H; exact H
            clear H
            have H := H1
            clear H1
            have H' := Aside0.mk H
            clear H
            go_wp2
            go_meet
            case rel => exact ⟨_, (t451), (t453), (t454), (t455), (by first | rfl | (simp; done) | (simp [*]; done)), H', ⟨by have := HK1.out; first | omega | exact Nat.le_refl _⟩, ⟨by repeat (first | (with_reducible first | exact HI0.out | apply IsS145.alloc | apply IsS145.drewN | apply IsS145.drew | apply IsS145.set_1 | apply IsS145.set_2 | apply IsS145.set_3) | exact HI0.out)⟩, ⟨by repeat (first | (with_reducible first | exact HK.out | apply KeepBut.set_ | apply keep_drewN | apply keep_drew | apply keep_alloc) | exact HK.out)⟩, ⟨by repeat (first | (with_reducible first | exact HB.out | apply below_alloc | apply pw_below_drewN | apply below_drew1 | refine below_set ?_ (IsS145.ge HI0.out)) | exact HB.out)⟩⟩
        case rest =>
          clear HC58
          try clear c1
          try clear c2
          try clear p2
          try clear c3
          try clear c4
          try clear p4
          try clear q4
          try clear hx4
          try clear c5
          try clear c6
          try clear p6
          try clear c7
          try clear c7b0
          try clear c9
          try clear c10
          try clear c11
          try clear c11b0
          try clear c11b1
          try clear c12
          try clear c14
          try clear c15
          try clear c16
          try clear c17
          try clear c17b0
          try clear c17b1
          try clear c19
          try clear c19b0
          try clear c20
          try clear c20b0
          try clear c21
          try clear c27
          try clear c27b0
          try clear c27b1
          try clear c29
          try clear c29b0
          try clear c30
          try clear c30b0
          try clear c31
          try clear c37
          try clear c37b0
          try clear c37b1
          try clear c39
          try clear c39b0
          try clear c40
          try clear c40b0
          try clear c41
          try clear p41
          try clear q41
          try clear hx41
          try clear p42
          try clear q42
          try clear hx42
          try clear p43
          try clear q43
          try clear hx43
          try clear c47
          try clear c47b0
          try clear c47b1
          try clear c49
          try clear c53
          try clear c62
          try clear p64
          try clear hcz5_0
          try clear hcz5_1
          try clear hcz5_2
          try clear hcz5_3
          try clear hfz5_1
          try clear hfz5_2
          try clear hfz5_3
          try clear hx411_0
          try clear hx422_0
          try clear hx433_0
          try clear p2
          try clear p411
          try clear p422
          try clear p433
          try clear p6
          try clear q411
          try clear q422
          try clear q433
          obtain ⟨kq, x5_57, x1001_57, x1002_57, x1003_57, rfl, HA, HJ57, HI0, HK, HB⟩ := hcut
          cases kq with
          | zero => exact absurd HA.out (by simp [spec_l01Src_shapeText.j2])
          | succ kj57 =>
            have H := HA.out
            clear HA
            simp only [spec_l01Src_shapeText.j2] at H
            replace H := Option.bind_eq_some_iff.mp H
            obtain ⟨⟨t460, t461, t462, t463⟩, A650, H⟩ := H
            replace H : (if t460 = true then ((spec_l01Src_n.f s0_0 t461 t462 t463 3).bind fun bt464 => ((spec_l01Src_long.f kj57 s0_0 bt464.2.1 bt464.2.2.1 bt464.2.2.2 (⟨#[97, 98]⟩ : ByteArray) (wrap64 (999 + bt464.1))).bind fun bt468 => (some (bt468.1, bt468.2.1, bt468.2.2.1, bt468.2.2.2)))) else (some (x5_57, t461, t462, t463))) = some (r1, r2, r3, r4) := H
            have A65 := Aside0.mk A650
            clear A650
            by_cases c66 : t460 = true
            · subst c66
              have H1 : ((spec_l01Src_n.f s0_0 t461 t462 t463 3).bind fun bt464 => ((spec_l01Src_long.f kj57 s0_0 bt464.2.1 bt464.2.2.1 bt464.2.2.2 (⟨#[97, 98]⟩ : ByteArray) (wrap64 (999 + bt464.1))).bind fun bt468 => (some (bt468.1, bt468.2.1, bt468.2.2.1, bt468.2.2.2)))) = some (r1, r2, r3, r4) := by rw [if_pos rfl] at H; exact H
              clear H
              have H := H1
              clear H1
              replace H := Option.bind_eq_some_iff.mp H
              obtain ⟨⟨t464, t465, t466, t467⟩, A670, H⟩ := H
              replace H : ((spec_l01Src_long.f kj57 s0_0 t465 t466 t467 (⟨#[97, 98]⟩ : ByteArray) (wrap64 (999 + t464))).bind fun bt468 => (some (bt468.1, bt468.2.1, bt468.2.2.1, bt468.2.2.2))) = some (r1, r2, r3, r4) := H
              have A67 := Aside0.mk A670
              clear A670
              replace H := Option.bind_eq_some_iff.mp H
              obtain ⟨⟨t468, t469, t470, t471⟩, A680, H⟩ := H
              replace H : (some (t468, t469, t470, t471)) = some (r1, r2, r3, r4) := H
              have A68 := Aside0.mk A680
              clear A680
              simp only [Option.some.injEq, Prod.mk.injEq] at H
              obtain ⟨rfl, rfl, rfl, rfl⟩ := H
              go_wp2_with (first | ((with_reducible refine gate_callee (f := 91) rfl ?_); refine goesL_ (some 80) rfl rfl Tryd.func91 (by kernel_rfl) rfl #[.pointer (some ⟨g, 0, none⟩), .int .i64 100] rfl (by (try simp only [List.map_toArray, List.map_cons, List.map_nil]); first | done | rfl | (simp only [List.length_drop, List.length_take]; rfl)) ?_; (with_reducible refine (spec_l01Src_one.calls g s0_0 x1001_57 x1002_57 x1003_57 100 true t461 t462 t463 w0 _ ?side1 ?side2 A65.out).mono ?_); (case side1 => repeat (first | (with_reducible first | exact HI0.out | apply IsS145.alloc | apply IsS145.drewN | apply IsS145.drew | apply IsS145.set_1 | apply IsS145.set_2 | apply IsS145.set_3) | exact HI0.out)); (case side2 => repeat (first | (with_reducible first | exact HB.out | apply below_alloc | apply pw_below_drewN | apply below_drew1 | refine below_set ?_ (IsS145.ge HI0.out)) | exact HB.out)); rintro e w69 ⟨rfl, hi, hb, hk⟩; refine ⟨_, rfl, ?_⟩; have n0_ := Aside0.mk (KeepBut.trans (by repeat (first | (with_reducible first | exact HK.out | apply KeepBut.set_ | apply keep_drewN | apply keep_drew | apply keep_alloc) | exact HK.out)) hk (.inl rfl)); have n1_ := Aside0.mk (hb); have n2_ := Aside0.mk (hi); clear HK; clear HB; clear HI0; have HK := n0_; have HB := n1_; have HI0 := n2_; clear n0_ n1_ n2_; (try clear hb); (try clear hb2); (try clear hk); (try clear hi)) | ((with_reducible refine gate_callee (f := 94) rfl ?_); refine goesL_ (some 83) rfl rfl Tryd.func94 (by kernel_rfl) rfl #[.pointer (some ⟨g, 0, none⟩), .int .i64 3] rfl (by (try simp only [List.map_toArray, List.map_cons, List.map_nil]); first | done | rfl | (simp only [List.length_drop, List.length_take]; rfl)) ?_; (with_reducible refine (spec_l01Src_n.calls g s0_0 t461 t462 t463 3 t464 t465 t466 t467 w0 _ ?side1 ?side2 A67.out).mono ?_); (case side1 => repeat (first | (with_reducible first | exact HI0.out | apply IsS145.alloc | apply IsS145.drewN | apply IsS145.drew | apply IsS145.set_1 | apply IsS145.set_2 | apply IsS145.set_3) | exact HI0.out)); (case side2 => repeat (first | (with_reducible first | exact HB.out | apply below_alloc | apply pw_below_drewN | apply below_drew1 | refine below_set ?_ (IsS145.ge HI0.out)) | exact HB.out)); rintro e w70 ⟨rfl, hi, hb, hk⟩; refine ⟨_, rfl, ?_⟩; have n0_ := Aside0.mk (KeepBut.trans (by repeat (first | (with_reducible first | exact HK.out | apply KeepBut.set_ | apply keep_drewN | apply keep_drew | apply keep_alloc) | exact HK.out)) hk (.inl rfl)); have n1_ := Aside0.mk (hb); have n2_ := Aside0.mk (hi); clear HK; clear HB; clear HI0; have HK := n0_; have HB := n1_; have HI0 := n2_; clear n0_ n1_ n2_; (try clear hb); (try clear hb2); (try clear hk); (try clear hi)) | ((with_reducible refine gate_callee (f := 92) rfl ?_); refine goesL_ (some 85) rfl rfl Tryd.func92 (by kernel_rfl) rfl #[.pointer (some ⟨g, 0, none⟩), .string (⟨#[97, 98]⟩ : ByteArray), .int .i64 (wrap64 (999 + t464))] rfl (by (try simp only [List.map_toArray, List.map_cons, List.map_nil]); first | done | rfl | (simp only [List.length_drop, List.length_take]; rfl)) ?_; (with_reducible refine (spec_l01Src_long.calls kj57 g s0_0 t465 t466 t467 (⟨#[97, 98]⟩ : ByteArray) (wrap64 (999 + t464)) t468 t469 t470 t471 w0 _ ?side1 ?side2 A68.out).mono ?_); (case side1 => repeat (first | (with_reducible first | exact HI0.out | apply IsS145.alloc | apply IsS145.drewN | apply IsS145.drew | apply IsS145.set_1 | apply IsS145.set_2 | apply IsS145.set_3) | exact HI0.out)); (case side2 => repeat (first | (with_reducible first | exact HB.out | apply below_alloc | apply pw_below_drewN | apply below_drew1 | refine below_set ?_ (IsS145.ge HI0.out)) | exact HB.out)); rintro e w71 ⟨rfl, hi, hb, hk⟩; refine ⟨_, rfl, ?_⟩; have n0_ := Aside0.mk (KeepBut.trans (by repeat (first | (with_reducible first | exact HK.out | apply KeepBut.set_ | apply keep_drewN | apply keep_drew | apply keep_alloc) | exact HK.out)) hk (.inl rfl)); have n1_ := Aside0.mk (hb); have n2_ := Aside0.mk (hi); clear HK; clear HB; clear HI0; have HK := n0_; have HB := n1_; have HI0 := n2_; clear n0_ n1_ n2_; (try clear hb); (try clear hb2); (try clear hk); (try clear hi)))
              go_ret
              exact ⟨by first | rfl | (simp [errW_none, errW_some] <;> rfl) | (simp [*, errW_none, errW_some] <;> rfl), by repeat (first | (with_reducible first | exact HI0.out | apply IsS145.alloc | apply IsS145.drewN | apply IsS145.drew | apply IsS145.set_1 | apply IsS145.set_2 | apply IsS145.set_3) | exact HI0.out), by repeat (first | (with_reducible first | exact HB.out | apply below_alloc | apply pw_below_drewN | apply below_drew1 | refine below_set ?_ (IsS145.ge HI0.out)) | exact HB.out), by repeat (first | (with_reducible first | exact HK.out | apply KeepBut.set_ | apply keep_drewN | apply keep_drew | apply keep_alloc) | exact HK.out)⟩
            · replace c66 := Bool.eq_false_iff.mpr c66
              subst c66
              have H1 : (some (x5_57, t461, t462, t463)) = some (r1, r2, r3, r4) := by rw [if_neg (show ¬ (false = true) by decide)] at H; exact H
              clear H
              have H := H1
              clear H1
              simp only [Option.some.injEq, Prod.mk.injEq] at H
              obtain ⟨rfl, rfl, rfl, rfl⟩ := H
              go_wp2_with (first | ((with_reducible refine gate_callee (f := 91) rfl ?_); refine goesL_ (some 80) rfl rfl Tryd.func91 (by kernel_rfl) rfl #[.pointer (some ⟨g, 0, none⟩), .int .i64 100] rfl (by (try simp only [List.map_toArray, List.map_cons, List.map_nil]); first | done | rfl | (simp only [List.length_drop, List.length_take]; rfl)) ?_; (with_reducible refine (spec_l01Src_one.calls g s0_0 x1001_57 x1002_57 x1003_57 100 false t461 t462 t463 w0 _ ?side1 ?side2 A65.out).mono ?_); (case side1 => repeat (first | (with_reducible first | exact HI0.out | apply IsS145.alloc | apply IsS145.drewN | apply IsS145.drew | apply IsS145.set_1 | apply IsS145.set_2 | apply IsS145.set_3) | exact HI0.out)); (case side2 => repeat (first | (with_reducible first | exact HB.out | apply below_alloc | apply pw_below_drewN | apply below_drew1 | refine below_set ?_ (IsS145.ge HI0.out)) | exact HB.out)); rintro e w72 ⟨rfl, hi, hb, hk⟩; refine ⟨_, rfl, ?_⟩; have n0_ := Aside0.mk (KeepBut.trans (by repeat (first | (with_reducible first | exact HK.out | apply KeepBut.set_ | apply keep_drewN | apply keep_drew | apply keep_alloc) | exact HK.out)) hk (.inl rfl)); have n1_ := Aside0.mk (hb); have n2_ := Aside0.mk (hi); clear HK; clear HB; clear HI0; have HK := n0_; have HB := n1_; have HI0 := n2_; clear n0_ n1_ n2_; (try clear hb); (try clear hb2); (try clear hk); (try clear hi)))
              go_ret
              exact ⟨by first | rfl | (simp [errW_none, errW_some] <;> rfl) | (simp [*, errW_none, errW_some] <;> rfl), by repeat (first | (with_reducible first | exact HI0.out | apply IsS145.alloc | apply IsS145.drewN | apply IsS145.drew | apply IsS145.set_1 | apply IsS145.set_2 | apply IsS145.set_3) | exact HI0.out), by repeat (first | (with_reducible first | exact HB.out | apply below_alloc | apply pw_below_drewN | apply below_drew1 | refine below_set ?_ (IsS145.ge HI0.out)) | exact HB.out), by repeat (first | (with_reducible first | exact HK.out | apply KeepBut.set_ | apply keep_drewN | apply keep_drew | apply keep_alloc) | exact HK.out)⟩

theorem spec_l01Src_shapeText.end2 (k : Nat) (l : List Int) (t : ByteArray) (a m z : Int) (hl : l.length ≤ 140737488355328) (h0 : 0 ≤ a) (h1 : a ≤ (l.length : Int)) (ht : t.size ≤ 100000) (hk : 2000 ≤ k) :
    YtnonijganceneaaDoorPts.Tot (spec_l01Src_shapeText.j2 (k + 1) t l a m z) (fun r => r.1.size ≤ 100000 ∧ 0 ≤ r.2.1 ∧ r.2.1 ≤ (l.length : Int) ∧ r.2.2.2 = z) := by
  simp only [spec_l01Src_shapeText.j2]
  refine YtnonijganceneaaDoorPts.Tot.bind (spec_l01Src_one.tot l a m z 100 hl h0 h1 (by decide)) ?_
  rintro ⟨b, a1, m1, z1⟩ ⟨h2, h3, h4⟩
  dsimp only at h2 h3 h4 ⊢
  subst h4
  refine YtnonijganceneaaDoorPts.Tot.ite (fun _ => ?_) (fun _ => YtnonijganceneaaDoorPts.Tot.mk ⟨ht, h2, h3, rfl⟩)
  refine YtnonijganceneaaDoorPts.Tot.bind (spec_l01Src_n.tot l a1 m1 z1 3 hl h2 h3 (by decide)) ?_
  rintro ⟨v, a2, m2, z2⟩ ⟨v1, v2, h5, h6, h7⟩
  dsimp only at v1 v2 h5 h6 h7 ⊢
  subst h7
  have hw : wrap64 (999 + v) = 999 + v := by unfold wrap64; omega
  rw [hw]
  clear hw
  unfold spec_l01Src_long.f
  refine YtnonijganceneaaDoorPts.Tot.bind (spec_l01Src_long.run l _ (999 + v) a2 m2 z2 rfl (by omega) (by omega) 1002 k [] (by simp; omega) (by simp) (by omega)) ?_
  rintro ⟨s, a3, m3, z3⟩ ⟨q1, q2, q3⟩
  dsimp only at q1 q2 q3 ⊢
  subst q2 q3
  exact YtnonijganceneaaDoorPts.Tot.mk ⟨by dsimp only; omega, h5, h6, rfl⟩
set_option maxHeartbeats 4000000 in
theorem spec_l01Src_shapeText.run (l : List Int) (z : Int) (hl : l.length ≤ 140737488355328) (d : Nat) (hd : d ≤ 1000) : ∀ (k : Nat) (n : Int) (acc : List Int) (a m : Int), n = d → acc.length + d ≤ 1000 → 2 * d + 2010 ≤ k → 0 ≤ a → a ≤ (l.length : Int) →
    YtnonijganceneaaDoorPts.Tot (spec_l01Src_shapeText.l0 k acc n l a m z) (fun r => r.1.size ≤ 100000 ∧ 0 ≤ r.2.1 ∧ r.2.1 ≤ (l.length : Int) ∧ r.2.2.2 = z) := by
  induction d with
  | zero =>
    intro k n acc a m hn ha hk h0 h1
    obtain ⟨k, rfl⟩ : ∃ j, k = j + 1 + 1 := ⟨k - 2, by omega⟩
    rw [spec_l01Src_shapeText.l0]
    rw [if_neg (by omega)]
    unfold W_spec_l01Text.f
    rw [if_pos (by omega)]
    simp only [Option.bind_some]
    have hs := YtnonijganceneaaDoorPts.encs_length acc
    refine YtnonijganceneaaDoorPts.Tot.bind (spec_l01Src_one.tot l a m z 25 hl h0 h1 (by decide)) ?_
    rintro ⟨b, a3, m3, z3⟩ ⟨h9, h10, h11⟩
    dsimp only at h9 h10 h11 ⊢
    subst h11
    have hz : (strOfNums (YtnonijganceneaaDoorPts.encs acc)).size ≤ 4000 := by rw [strOfNums_size]; omega
    refine YtnonijganceneaaDoorPts.Tot.ite (fun _ => ?_) (fun _ => spec_l01Src_shapeText.end2 k l _ a3 m3 z3 hl h9 h10 (by omega) (by omega))
    refine YtnonijganceneaaDoorPts.Tot.bind (spec_l01Src_spoil.tot k l a3 m3 z3 _ hl h9 h10 (by omega)) ?_
    rintro ⟨t2, a4, m4, z4⟩ ⟨h12, h13, h14, h15⟩
    dsimp only at h12 h13 h14 h15 ⊢
    subst h15
    exact spec_l01Src_shapeText.end2 k l t2 a4 m4 z4 hl h13 h14 (by omega) (by omega)
  | succ d ih =>
    intro k n acc a m hn ha hk h0 h1
    obtain ⟨k, rfl⟩ : ∃ j, k = j + 9 + 1 + 1 := ⟨k - 11, by omega⟩
    have hw : wrap64 (n - 1) = ((d : Nat) : Int) := by unfold wrap64; omega
    have next : ∀ (p a1 m1 : Int), 0 ≤ a1 → a1 ≤ (l.length : Int) → YtnonijganceneaaDoorPts.Tot (spec_l01Src_shapeText.l0 (k + 9) (acc ++ [p]) (wrap64 (n - 1)) l a1 m1 z) (fun r => r.1.size ≤ 100000 ∧ 0 ≤ r.2.1 ∧ r.2.1 ≤ (l.length : Int) ∧ r.2.2.2 = z) := by
      intro p a1 m1 g1 g2
      rw [hw]
      exact ih (by omega) (k + 9) (d : Int) (acc ++ [p]) a1 m1 rfl (by rw [List.length_append]; simp only [List.length_cons, List.length_nil]; omega) (by omega) g1 g2
    have hlen : acc.length < 17592186044416 := by omega
    rw [spec_l01Src_shapeText.l0]
    rw [if_pos (by omega)]
    refine YtnonijganceneaaDoorPts.Tot.bind (spec_l01Src_n.tot l a m z 7 hl h0 h1 (by decide)) ?_
    rintro ⟨v, a1, m1, z1⟩ ⟨v1, v2, h2, h3, h4⟩
    dsimp only at v1 v2 h2 h3 h4 ⊢
    subst h4
    clear hw
    have hj : ∀ b : Bool, YtnonijganceneaaDoorPts.Tot (spec_l01Src_shapeText.j1 (k + 9 + 1) acc n v b l a1 m1 z1) (fun r => r.1.size ≤ 100000 ∧ 0 ≤ r.2.1 ∧ r.2.1 ≤ (l.length : Int) ∧ r.2.2.2 = z1) := by
      intro b
      rw [spec_l01Src_shapeText.j1]
      repeat' first
        | exact next _ _ _ (by assumption) (by assumption)
        | (refine YtnonijganceneaaDoorPts.Tot.bind (spec_l01Src_n.tot l _ _ _ _ hl (by assumption) (by assumption) (by decide)) ?_; rintro ⟨w, aw, mw, zw⟩ ⟨q1, q2, q3, q4, q5⟩; dsimp only at q1 q2 q3 q4 q5 ⊢; subst q5)
        | (refine YtnonijganceneaaDoorPts.Tot.bind (spec_l01Src_point.tot k l _ _ _ hl (by assumption) (by assumption)) ?_; rintro ⟨w, aw, mw, zw⟩ ⟨q3, q4, q5⟩; dsimp only at q3 q4 q5 ⊢; subst q5)
        | (rw [Option.bind_some]; dsimp only [List.length_cons, List.length_nil])
        | (refine YtnonijganceneaaDoorPts.Tot.ite (fun hc => ?_) (fun hc => ?_))
        | (exfalso; omega)
    refine YtnonijganceneaaDoorPts.Tot.ite (fun _ => hj _) (fun _ => hj _)
theorem spec_l01Src_shapeText.tot (k : Nat) (l : List Int) (a m z : Int) (hl : l.length ≤ 140737488355328) (h0 : 0 ≤ a) (h1 : a ≤ (l.length : Int)) (hz : 0 ≤ z) (hz2 : z ≤ 12) (hk : 4000 ≤ k) :
    YtnonijganceneaaDoorPts.Tot (spec_l01Src_shapeText.f k l a m z) (fun r => r.1.size ≤ 100000 ∧ 0 ≤ r.2.1 ∧ r.2.1 ≤ (l.length : Int) ∧ r.2.2.2 = z) := by
  unfold spec_l01Src_shapeText.f
  have hw : wrap64 (9 + z) = 9 + z := by unfold wrap64; omega
  rw [hw]
  clear hw
  refine YtnonijganceneaaDoorPts.Tot.bind (spec_l01Src_n.tot l a m z _ hl h0 h1 (by omega)) ?_
  rintro ⟨v, a1, m1, z1⟩ ⟨v1, v2, h2, h3, h4⟩
  dsimp only at v1 v2 h2 h3 h4 ⊢
  subst h4
  exact spec_l01Src_shapeText.run l z1 hl v.toNat (by omega) k v [] a1 m1 (by omega) (by simp; omega) (by omega) h2 h3

end Go.Proofs.YtnonijganceneaaDoor.QFnJoined
