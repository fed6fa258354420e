/- The law FnJoinNormal: at every input the call answers true (this text: contracts on its way, by a program of this session's; no condition of ours). -/
import Derived.Test.YtiabgmddnddeiaaDoorQFnJoinNormalx0
import Derived.Test.YtiabgmddnddeiaaDoorQFnJoinNormalx13
import Derived.Test.YtiabgmddnddeiaaDoorQFnJoinNormalx14
namespace Go.Proofs.YtiabgmddnddeiaaDoor.QFnJoinNormal
open Go.RowKit Go.Proofs.YtiabgmddnddeiaaDoorW.PrintWords Go.Proofs.YtiabgmddnddeiaaDoorW.PrintLast Go.Proofs.YtiabgmddnddeiaaDoorW.PrintMore
attribute [local go_sem] max2_int min2_int max_two min_two max_three min_three max_four min_four   -- for this text's walks alone
set_option linter.unusedVariables false
set_option linter.unusedSimpArgs false
/-! ### spec_l01Src_point: function 179 -/
mutual
def spec_l01Src_point.j0 : Nat → Int → Bool → List Int → Int → Int → Int → Option (Int × Int × Int × Int)
 | 0, _, _, _, _, _, _ => none
 | k + 1, x4, x5, x1000, x1001, x1002, x1003 => if x5 = true then ((spec_l01Src_n.f x1000 x1001 x1002 x1003 26).bind fun bt348 => (some (wrap64 (97 + bt348.1), bt348.2.1, bt348.2.2.1, bt348.2.2.2))) else (if x4 = 3 then ((spec_l01Src_n.f x1000 x1001 x1002 x1003 26).bind fun bt352 => (some (wrap64 (65 + bt352.1), bt352.2.1, bt352.2.2.1, bt352.2.2.2))) else (if x4 = 4 then ((some (([32, 32, 160, 10, 9, 13, 8064, 173] : List Int) : List Int)).bind fun y356 => ((spec_l01Src_n.f x1000 x1001 x1002 x1003 8).bind fun bt359 => (if 0 ≤ bt359.1 then (if bt359.1 < (y356.length : Int) then (some (rd y356 bt359.1, bt359.2.1, bt359.2.2.1, bt359.2.2.2)) else (none)) else (none)))) else (if x4 = 5 then ((spec_l01Src_n.f x1000 x1001 x1002 x1003 10).bind fun bt364 => ((spec_l01Src_n.f x1000 bt364.2.1 bt364.2.2.1 bt364.2.2.2 10).bind fun bt368 => ((spec_l01Src_n.f x1000 bt368.2.1 bt368.2.2.1 bt368.2.2.2 10).bind fun bt372 => ((spec_l01Src_n.f x1000 bt372.2.1 bt372.2.2.1 bt372.2.2.2 10).bind fun bt376 => ((some (([wrap64 (48 + bt364.1), wrap64 (592 + bt368.1), wrap64 (1360 + bt372.1), wrap64 (10016 + bt376.1)] : List Int) : List Int)).bind fun y380 => ((spec_l01Src_n.f x1000 bt376.2.1 bt376.2.2.1 bt376.2.2.2 4).bind fun bt383 => (if 0 ≤ bt383.1 then (if bt383.1 < (y380.length : Int) then (some (rd y380 bt383.1, bt383.2.1, bt383.2.2.1, bt383.2.2.2)) else (none)) else (none)))))))) else (if x4 = 6 then ((some (([46, 44, 33, 63, 39, 40, 41, 91, 93, 45, 58, 95] : List Int) : List Int)).bind fun y388 => ((spec_l01Src_n.f x1000 x1001 x1002 x1003 12).bind fun bt391 => (if 0 ≤ bt391.1 then (if bt391.1 < (y388.length : Int) then (some (rd y388 bt391.1, bt391.2.1, bt391.2.2.1, bt391.2.2.2)) else (none)) else (none)))) else (if x4 = 7 then (spec_l01Src_point.j1 k x4 (x4 == 7) x1000 x1001 x1002 x1003) else (spec_l01Src_point.j1 k x4 (x4 == 8) x1000 x1001 x1002 x1003))))))
def spec_l01Src_point.j1 : Nat → Int → Bool → List Int → Int → Int → Int → Option (Int × Int × Int × Int)
 | 0, _, _, _, _, _, _ => none
 | k + 1, x4, x50, x1000, x1001, x1002, x1003 => if x50 = true then ((spec_l01Src_n.f x1000 x1001 x1002 x1003 3).bind fun bt396 => ((spec_l01Src_n.f x1000 bt396.2.1 bt396.2.2.1 bt396.2.2.2 76).bind fun bt400 => (some (wrap64 ((wrap64 (512 + (wrap64 (256 * bt396.1)))) + bt400.1), bt400.2.1, bt400.2.2.1, bt400.2.2.2)))) else (if x4 = 9 then ((spec_l01Src_n.f x1000 x1001 x1002 x1003 3).bind fun bt404 => ((spec_l01Src_n.f x1000 bt404.2.1 bt404.2.2.1 bt404.2.2.2 2).bind fun bt408 => (some (wrap64 ((wrap64 ((wrap64 (512 + (wrap64 (256 * bt404.1)))) + 96)) + bt408.1), bt408.2.1, bt408.2.2.1, bt408.2.2.2)))) else (if x4 = 10 then (spec_l01Src_point.j2 k x4 (x4 == 10) x1000 x1001 x1002 x1003) else (spec_l01Src_point.j2 k x4 (x4 == 11) x1000 x1001 x1002 x1003)))
def spec_l01Src_point.j2 : Nat → Int → Bool → List Int → Int → Int → Int → Option (Int × Int × Int × Int)
 | 0, _, _, _, _, _, _ => none
 | k + 1, x4, x70, x1000, x1001, x1002, x1003 => if x70 = true then ((spec_l01Src_n.f x1000 x1001 x1002 x1003 32).bind fun bt412 => (some (wrap64 (1280 + bt412.1), bt412.2.1, bt412.2.2.1, bt412.2.2.2))) else (if x4 = 12 then ((spec_l01Src_n.f x1000 x1001 x1002 x1003 32).bind fun bt416 => ((spec_l01Src_n.f x1000 bt416.2.1 bt416.2.2.1 bt416.2.2.2 12).bind fun bt420 => ((some (([wrap64 (1536 + bt416.1), wrap64 (1568 + bt420.1), 1584, 1585] : List Int) : List Int)).bind fun y424 => ((spec_l01Src_n.f x1000 bt420.2.1 bt420.2.2.1 bt420.2.2.2 4).bind fun bt427 => (if 0 ≤ bt427.1 then (if bt427.1 < (y424.length : Int) then (some (rd y424 bt427.1, bt427.2.1, bt427.2.2.1, bt427.2.2.2)) else (none)) else (none)))))) else (if x4 = 13 then ((spec_l01Src_n.f x1000 x1001 x1002 x1003 19).bind fun bt432 => ((spec_l01Src_n.f x1000 bt432.2.1 bt432.2.2.1 bt432.2.2.2 21).bind fun bt436 => ((spec_l01Src_n.f x1000 bt436.2.1 bt436.2.2.1 bt436.2.2.2 27).bind fun bt440 => ((some (([wrap64 (1792 + bt432.1), wrap64 (1824 + bt436.1), wrap64 (1857 + bt440.1)] : List Int) : List Int)).bind fun y444 => ((spec_l01Src_n.f x1000 bt440.2.1 bt440.2.2.1 bt440.2.2.2 3).bind fun bt447 => (if 0 ≤ bt447.1 then (if bt447.1 < (y444.length : Int) then (some (rd y444 bt447.1, bt447.2.1, bt447.2.2.1, bt447.2.2.2)) else (none)) else (none))))))) else (if x4 = 14 then ((spec_l01Src_n.f x1000 x1001 x1002 x1003 48).bind fun bt452 => (some (wrap64 (2048 + bt452.1), bt452.2.1, bt452.2.2.1, bt452.2.2.2))) else (if x4 = 15 then (spec_l01Src_point.j3 k x4 (x4 == 15) x1000 x1001 x1002 x1003) else (spec_l01Src_point.j3 k x4 (x4 == 16) x1000 x1001 x1002 x1003)))))
def spec_l01Src_point.j3 : Nat → Int → Bool → List Int → Int → Int → Int → Option (Int × Int × Int × Int)
 | 0, _, _, _, _, _, _ => none
 | k + 1, x4, x110, x1000, x1001, x1002, x1003 => if x110 = true then ((spec_l01Src_n.f x1000 x1001 x1002 x1003 64).bind fun bt456 => (some (wrap64 (4096 + bt456.1), bt456.2.1, bt456.2.2.1, bt456.2.2.2))) else (if x4 = 17 then ((spec_l01Src_n.f x1000 x1001 x1002 x1003 64).bind fun bt460 => ((spec_l01Src_n.f x1000 bt460.2.1 bt460.2.2.1 bt460.2.2.2 5).bind fun bt464 => ((spec_l01Src_n.f x1000 bt464.2.1 bt464.2.2.1 bt464.2.2.2 26).bind fun bt468 => ((some (([wrap64 (7680 + bt460.1), wrap64 (7744 + bt464.1), wrap64 (7760 + bt468.1)] : List Int) : List Int)).bind fun y472 => ((spec_l01Src_n.f x1000 bt468.2.1 bt468.2.2.1 bt468.2.2.2 3).bind fun bt475 => (if 0 ≤ bt475.1 then (if bt475.1 < (y472.length : Int) then (some (rd y472 bt475.1, bt475.2.1, bt475.2.2.1, bt475.2.2.2)) else (none)) else (none))))))) else (if x4 = 18 then ((spec_l01Src_n.f x1000 x1001 x1002 x1003 12).bind fun bt480 => ((some (([wrap64 (7936 + bt480.1), 7953, 7954] : List Int) : List Int)).bind fun y484 => ((spec_l01Src_n.f x1000 bt480.2.1 bt480.2.2.1 bt480.2.2.2 3).bind fun bt487 => (if 0 ≤ bt487.1 then (if bt487.1 < (y484.length : Int) then (some (rd y484 bt487.1, bt487.2.1, bt487.2.2.1, bt487.2.2.2)) else (none)) else (none))))) else (if x4 = 19 then (spec_l01Src_point.j4 k x4 (x4 == 19) x1000 x1001 x1002 x1003) else (spec_l01Src_point.j4 k x4 (x4 == 20) x1000 x1001 x1002 x1003))))
def spec_l01Src_point.j4 : Nat → Int → Bool → List Int → Int → Int → Int → Option (Int × Int × Int × Int)
 | 0, _, _, _, _, _, _ => none
 | k + 1, x4, x142, x1000, x1001, x1002, x1003 => if x142 = true then ((spec_l01Src_n.f x1000 x1001 x1002 x1003 3).bind fun bt492 => ((spec_l01Src_n.f x1000 bt492.2.1 bt492.2.2.1 bt492.2.2.2 416).bind fun bt496 => (some (wrap64 ((wrap64 (8192 + (wrap64 (512 * bt492.1)))) + bt496.1), bt496.2.1, bt496.2.2.1, bt496.2.2.2)))) else (if x4 = 21 then ((spec_l01Src_n.f x1000 x1001 x1002 x1003 26).bind fun bt500 => ((spec_l01Src_n.f x1000 bt500.2.1 bt500.2.2.1 bt500.2.2.2 26).bind fun bt504 => ((spec_l01Src_n.f x1000 bt504.2.1 bt504.2.2.1 bt504.2.2.2 4).bind fun bt508 => ((some (([wrap64 (9728 + bt500.1), wrap64 (9984 + bt504.1), wrap64 (10032 + bt508.1)] : List Int) : List Int)).bind fun y512 => ((spec_l01Src_n.f x1000 bt508.2.1 bt508.2.2.1 bt508.2.2.2 3).bind fun bt515 => (if 0 ≤ bt515.1 then (if bt515.1 < (y512.length : Int) then (some (rd y512 bt515.1, bt515.2.1, bt515.2.2.1, bt515.2.2.2)) else (none)) else (none))))))) else (if x4 = 22 then ((spec_l01Src_n.f x1000 x1001 x1002 x1003 11172).bind fun bt520 => ((spec_l01Src_n.f x1000 bt520.2.1 bt520.2.2.1 bt520.2.2.2 2048).bind fun bt524 => ((some (([wrap64 (12288 + bt520.1), wrap64 (24576 + bt524.1)] : List Int) : List Int)).bind fun y528 => ((spec_l01Src_n.f x1000 bt524.2.1 bt524.2.2.1 bt524.2.2.2 2).bind fun bt531 => (if 0 ≤ bt531.1 then (if bt531.1 < (y528.length : Int) then (some (rd y528 bt531.1, bt531.2.1, bt531.2.2.1, bt531.2.2.2)) else (none)) else (none)))))) else ((spec_l01Src_n.f x1000 x1001 x1002 x1003 12288).bind fun bt536 => ((spec_l01Src_n.f x1000 bt536.2.1 bt536.2.2.1 bt536.2.2.2 4096).bind fun bt540 => ((spec_l01Src_n.f x1000 bt540.2.1 bt540.2.2.1 bt540.2.2.2 32768).bind fun bt544 => ((some (([65533, wrap64 (20480 + bt536.1), wrap64 (65536 + bt540.1), 1114111, 65535, bt544.1] : List Int) : List Int)).bind fun y548 => ((spec_l01Src_n.f x1000 bt544.2.1 bt544.2.2.1 bt544.2.2.2 6).bind fun bt551 => (if 0 ≤ bt551.1 then (if bt551.1 < (y548.length : Int) then (some (rd y548 bt551.1, bt551.2.1, bt551.2.2.1, bt551.2.2.2)) else (none)) else (none)))))))))
end
def spec_l01Src_point.f (k : Nat) (s0_0 : List Int) (s0_1 : Int) (s0_2 : Int) (s0_3 : Int) : Option (Int × Int × Int × Int) := (spec_l01Src_n.f s0_0 s0_1 s0_2 s0_3 24).bind fun bt344 => (if bt344.1 = 0 then (spec_l01Src_point.j0 k bt344.1 (bt344.1 == 0) s0_0 bt344.2.1 bt344.2.2.1 bt344.2.2.2) else (if bt344.1 = 1 then (spec_l01Src_point.j0 k bt344.1 (bt344.1 == 1) s0_0 bt344.2.1 bt344.2.2.1 bt344.2.2.2) else (spec_l01Src_point.j0 k bt344.1 (bt344.1 == 2) s0_0 bt344.2.1 bt344.2.2.1 bt344.2.2.2)))
theorem spec_l01Src_point.mono_l : ∀ k, (∀ y0 y1 y2 y3 y4 y5, LeO (spec_l01Src_point.j0 k y0 y1 y2 y3 y4 y5) (spec_l01Src_point.j0 (k + 1) y0 y1 y2 y3 y4 y5)) ∧ (∀ y0 y1 y2 y3 y4 y5, LeO (spec_l01Src_point.j1 k y0 y1 y2 y3 y4 y5) (spec_l01Src_point.j1 (k + 1) y0 y1 y2 y3 y4 y5)) ∧ (∀ y0 y1 y2 y3 y4 y5, LeO (spec_l01Src_point.j2 k y0 y1 y2 y3 y4 y5) (spec_l01Src_point.j2 (k + 1) y0 y1 y2 y3 y4 y5)) ∧ (∀ y0 y1 y2 y3 y4 y5, LeO (spec_l01Src_point.j3 k y0 y1 y2 y3 y4 y5) (spec_l01Src_point.j3 (k + 1) y0 y1 y2 y3 y4 y5)) ∧ (∀ y0 y1 y2 y3 y4 y5, LeO (spec_l01Src_point.j4 k y0 y1 y2 y3 y4 y5) (spec_l01Src_point.j4 (k + 1) y0 y1 y2 y3 y4 y5))
 | 0 => ⟨fun _ _ _ _ _ _ r h => by simp [spec_l01Src_point.j0] at h, fun _ _ _ _ _ _ r h => by simp [spec_l01Src_point.j1] at h, fun _ _ _ _ _ _ r h => by simp [spec_l01Src_point.j2] at h, fun _ _ _ _ _ _ r h => by simp [spec_l01Src_point.j3] at h, fun _ _ _ _ _ _ r h => by simp [spec_l01Src_point.j4] at h⟩
 | k + 1 => by
  obtain ⟨ih0, ih1, ih2, ih3, ih4⟩ := spec_l01Src_point.mono_l k; refine ⟨?_, ?_, ?_, ?_, ?_⟩
  ·intro y0 y1 y2 y3 y4 y5
   unfold spec_l01Src_point.j0
   repeat' first
   | (with_reducible exact ih0 _ _ _ _ _ _)
   | (with_reducible exact ih1 _ _ _ _ _ _)
   | (with_reducible exact ih2 _ _ _ _ _ _)
   | (with_reducible exact ih3 _ _ _ _ _ _)
   | (with_reducible exact ih4 _ _ _ _ _ _)
   | (with_reducible exact LeO.refl _)
   | (with_reducible exact LeO.none _)
   | (with_reducible refine LeO.ite ?_ ?_)
   | (with_reducible refine LeO.bind ?_ (fun _ => ?_))
   | exact ih0 _ _ _ _ _ _
   | exact ih1 _ _ _ _ _ _
   | exact ih2 _ _ _ _ _ _
   | exact ih3 _ _ _ _ _ _
   | exact ih4 _ _ _ _ _ _
   | exact LeO.none _
   | refine LeO.ite ?_ ?_
   | refine LeO.bind ?_ (fun _ => ?_)
  ·intro y0 y1 y2 y3 y4 y5
   unfold spec_l01Src_point.j1
   repeat' first
   | (with_reducible exact ih0 _ _ _ _ _ _)
   | (with_reducible exact ih1 _ _ _ _ _ _)
   | (with_reducible exact ih2 _ _ _ _ _ _)
   | (with_reducible exact ih3 _ _ _ _ _ _)
   | (with_reducible exact ih4 _ _ _ _ _ _)
   | (with_reducible exact LeO.refl _)
   | (with_reducible exact LeO.none _)
   | (with_reducible refine LeO.ite ?_ ?_)
   | (with_reducible refine LeO.bind ?_ (fun _ => ?_))
   | exact ih0 _ _ _ _ _ _
   | exact ih1 _ _ _ _ _ _
   | exact ih2 _ _ _ _ _ _
   | exact ih3 _ _ _ _ _ _
   | exact ih4 _ _ _ _ _ _
   | exact LeO.none _
   | refine LeO.ite ?_ ?_
   | refine LeO.bind ?_ (fun _ => ?_)
  ·intro y0 y1 y2 y3 y4 y5
   unfold spec_l01Src_point.j2
   repeat' first
   | (with_reducible exact ih0 _ _ _ _ _ _)
   | (with_reducible exact ih1 _ _ _ _ _ _)
   | (with_reducible exact ih2 _ _ _ _ _ _)
   | (with_reducible exact ih3 _ _ _ _ _ _)
   | (with_reducible exact ih4 _ _ _ _ _ _)
   | (with_reducible exact LeO.refl _)
   | (with_reducible exact LeO.none _)
   | (with_reducible refine LeO.ite ?_ ?_)
   | (with_reducible refine LeO.bind ?_ (fun _ => ?_))
   | exact ih0 _ _ _ _ _ _
   | exact ih1 _ _ _ _ _ _
   | exact ih2 _ _ _ _ _ _
   | exact ih3 _ _ _ _ _ _
   | exact ih4 _ _ _ _ _ _
   | exact LeO.none _
   | refine LeO.ite ?_ ?_
   | refine LeO.bind ?_ (fun _ => ?_)
  ·intro y0 y1 y2 y3 y4 y5
   unfold spec_l01Src_point.j3
   repeat' first
   | (with_reducible exact ih0 _ _ _ _ _ _)
   | (with_reducible exact ih1 _ _ _ _ _ _)
   | (with_reducible exact ih2 _ _ _ _ _ _)
   | (with_reducible exact ih3 _ _ _ _ _ _)
   | (with_reducible exact ih4 _ _ _ _ _ _)
   | (with_reducible exact LeO.refl _)
   | (with_reducible exact LeO.none _)
   | (with_reducible refine LeO.ite ?_ ?_)
   | (with_reducible refine LeO.bind ?_ (fun _ => ?_))
   | exact ih0 _ _ _ _ _ _
   | exact ih1 _ _ _ _ _ _
   | exact ih2 _ _ _ _ _ _
   | exact ih3 _ _ _ _ _ _
   | exact ih4 _ _ _ _ _ _
   | exact LeO.none _
   | refine LeO.ite ?_ ?_
   | refine LeO.bind ?_ (fun _ => ?_)
  intro y0 y1 y2 y3 y4 y5
  unfold spec_l01Src_point.j4
  repeat' first
  | (with_reducible exact ih0 _ _ _ _ _ _)
  | (with_reducible exact ih1 _ _ _ _ _ _)
  | (with_reducible exact ih2 _ _ _ _ _ _)
  | (with_reducible exact ih3 _ _ _ _ _ _)
  | (with_reducible exact ih4 _ _ _ _ _ _)
  | (with_reducible exact LeO.refl _)
  | (with_reducible exact LeO.none _)
  | (with_reducible refine LeO.ite ?_ ?_)
  | (with_reducible refine LeO.bind ?_ (fun _ => ?_))
  | exact ih0 _ _ _ _ _ _
  | exact ih1 _ _ _ _ _ _
  | exact ih2 _ _ _ _ _ _
  | exact ih3 _ _ _ _ _ _
  | exact ih4 _ _ _ _ _ _
  | exact LeO.none _
  | refine LeO.ite ?_ ?_
  | refine LeO.bind ?_ (fun _ => ?_)
theorem spec_l01Src_point.mono : ∀ a0 a1 a2 a3 k, LeO (spec_l01Src_point.f k a0 a1 a2 a3) (spec_l01Src_point.f (k + 1) a0 a1 a2 a3) := by
 intro a0 a1 a2 a3 k
 obtain ⟨ih0, ih1, ih2, ih3, ih4⟩ := spec_l01Src_point.mono_l k
 unfold spec_l01Src_point.f
 repeat' first
   | (with_reducible exact ih0 _ _ _ _ _ _)
   | (with_reducible exact ih1 _ _ _ _ _ _)
   | (with_reducible exact ih2 _ _ _ _ _ _)
   | (with_reducible exact ih3 _ _ _ _ _ _)
   | (with_reducible exact ih4 _ _ _ _ _ _)
   | (with_reducible exact LeO.refl _)
   | (with_reducible exact LeO.none _)
   | (with_reducible refine LeO.ite ?_ ?_)
   | (with_reducible refine LeO.bind ?_ (fun _ => ?_))
   | exact ih0 _ _ _ _ _ _
   | exact ih1 _ _ _ _ _ _
   | exact ih2 _ _ _ _ _ _
   | exact ih3 _ _ _ _ _ _
   | exact ih4 _ _ _ _ _ _
   | exact LeO.none _
   | refine LeO.ite ?_ ?_
   | refine LeO.bind ?_ (fun _ => ?_)
set_option maxHeartbeats 8000000 in
set_option maxRecDepth 100000 in
theorem spec_l01Src_point.calls_0 (k : Nat) (g : Nat) (s0_0 : List Int) (s0_1 : Int) (s0_2 : Int) (s0_3 : Int) (r1 : Int) (r2 : Int) (r3 : Int) (r4 : Int) (w0 w : World) (hI : IsS134 w0 w g s0_0 s0_1 s0_2 s0_3) (hB : Below w0.heap.size w0 w) (h : spec_l01Src_point.f k s0_0 s0_1 s0_2 s0_3 = some (r1, r2, r3, r4)) (hv_ : ∀ x_ y_, spec_l01Src_n.f s0_0 s0_1 s0_2 s0_3 24 = some (x_, y_) → x_ < 7) :
  Calls Tryd.prog 179 #[.pointer (some ⟨g, 0, none⟩)] w fun e w' => e = .returned (.int .i64 r1) ∧ IsS134 w0 w' g s0_0 r2 r3 r4 ∧ Below w0.heap.size w0 w' ∧ KeepBut w w' g none := by
 have HI0 := Aside0.mk hI
 have HK := Aside0.mk (KeepBut.refl w g none)
 have HL := Aside0.mk hB.size
 clear hI
 have HW0 := Aside0.mk hB.size
 have HB := Aside0.mk hB
 clear hB
 have H : ((spec_l01Src_n.f s0_0 s0_1 s0_2 s0_3 24).bind fun bt344 => (if bt344.1 = 0 then (spec_l01Src_point.j0 k bt344.1 (bt344.1 == 0) s0_0 bt344.2.1 bt344.2.2.1 bt344.2.2.2) else (if bt344.1 = 1 then (spec_l01Src_point.j0 k bt344.1 (bt344.1 == 1) s0_0 bt344.2.1 bt344.2.2.1 bt344.2.2.2) else (spec_l01Src_point.j0 k bt344.1 (bt344.1 == 2) s0_0 bt344.2.1 bt344.2.2.1 bt344.2.2.2)))) = some (r1, r2, r3, r4) := h
 clear h
 replace H := Option.bind_eq_some_iff.mp H
 obtain ⟨⟨t344, t345, t346, t347⟩, A20, H⟩ := H
 have HV := Aside0.mk (hv_ _ _ A20)
 clear hv_
 try dsimp only at H
 have A2 := Aside0.mk A20
 clear A20
 have HC3 := Aside0.mk H
 clear H
 go_enter Tryd.func179, Tryd.ntmps179
 go_upto_if 5 with (first | ((with_reducible refine gate_callee (f := 82) rfl ?_); refine goesL_ (some 4) rfl rfl Tryd.func82 (by kernel_rfl) rfl #[.pointer (some ⟨g, 0, none⟩), .int .i64 24] rfl (by (try simp only [List.map_toArray, List.map_cons, List.map_nil]); first | done | rfl) ?_; refine (spec_l01Src_n.callsA g s0_0 s0_1 s0_2 s0_3 24 t344 t345 t346 t347 w0 _ _ A2.out).mono ?_; rintro e w4 ⟨rfl, hi, hb, hk⟩; refine ⟨_, rfl, ?_⟩; replace HI0 := hi; replace HB := hb; replace HK := hk; clear hi hb hk))
 (try simp only [Act.put, List.setIfInBounds_toArray, List.set_cons_zero, List.set_cons_succ])
 go_cut [5] (fun v5 wc => ∃ (kq : Nat) (x5_2 : Bool), v5 = .bool x5_2 ∧ Aside0 (spec_l01Src_point.j0 kq t344 x5_2 s0_0 t345 t346 t347 = some (r1, r2, r3, r4)) ∧ Aside0 (kq ≤ k) ∧ Aside0 (IsS134 w0 wc g s0_0 t345 t346 t347) ∧ Aside0 (KeepBut w wc g none) ∧ Aside0 (Below w0.heap.size w0 wc))
 case first =>
  have H := HC3.out; clear HC3
  by_cases c5 : t344 = 0
  ·rw [if_pos c5] at H
   have c5b0 : (t344 == 0) = true := beq_iff_eq.mpr c5; have c5b1 : (t344 != 0) = false := bne_eq_false_iff_eq.mpr c5; clear c5
   (first | rw [c5b0] | (simp only [i64_w, i32_w]; rw [c5b0]) | skip)
   have H' := Aside0.mk H; clear H
   go_wp2
   go_meet
   case rel => exact ⟨_, ((t344 == 0)), (by first | rfl | (simp; done) | (simp [*]; done)), H', ⟨by first | omega | exact Nat.le_refl _⟩, ⟨isA⟩, ⟨keepA⟩, ⟨belowI⟩⟩
  rw [if_neg c5] at H; have c5b0 : (t344 == 0) = false := beq_eq_false_iff_ne.mpr c5; have c5b1 : (t344 != 0) = true := bne_iff_ne.mpr c5
  (first | rw [c5b0] | (simp only [i64_w, i32_w]; rw [c5b0]) | skip)
  by_cases c6 : t344 = 1
  ·rw [if_pos c6] at H
   have c6b0 : (t344 == 1) = true := beq_iff_eq.mpr c6; have c6b1 : (t344 != 1) = false := bne_eq_false_iff_eq.mpr c6; clear c6; have H' := Aside0.mk H; clear H
   go_wp2
   go_meet
   case rel => exact ⟨_, ((t344 == 1)), (by first | rfl | (simp; done) | (simp [*]; done)), H', ⟨by first | omega | exact Nat.le_refl _⟩, ⟨isA⟩, ⟨keepA⟩, ⟨belowI⟩⟩
  rw [if_neg c6] at H; have c6b0 : (t344 == 1) = false := beq_eq_false_iff_ne.mpr c6; have c6b1 : (t344 != 1) = true := bne_iff_ne.mpr c6; have H' := Aside0.mk H; clear H
  go_wp2
  go_meet
  case rel => exact ⟨_, ((t344 == 2)), (by first | rfl | (simp; done) | (simp [*]; done)), H', ⟨by first | omega | exact Nat.le_refl _⟩, ⟨isA⟩, ⟨keepA⟩, ⟨belowI⟩⟩
 case rest =>
  clear HC3
  try clear c1; try clear p2; try clear c5; try clear c5b0; try clear c5b1; try clear c6; try clear c6b0; try clear c6b1
  obtain ⟨kq, x5_2, rfl, HA, HJ2, HI0, HK, HB⟩ := hcut
  cases kq with
  | zero => exact absurd HA.out (by simp [spec_l01Src_point.j0])
  | succ kj2 =>
   have H := HA.out; clear HA; simp only [spec_l01Src_point.j0] at H
   by_cases c7 : x5_2 = true
   ·subst c7
    have H1 : ((spec_l01Src_n.f s0_0 t345 t346 t347 26).bind fun bt348 => (some (wrap64 (97 + bt348.1), bt348.2.1, bt348.2.2.1, bt348.2.2.2))) = some (r1, r2, r3, r4) := by rw [if_pos rfl] at H; exact H
    clear H; have H := H1; clear H1; replace H := Option.bind_eq_some_iff.mp H; obtain ⟨⟨t348, t349, t350, t351⟩, A80, H⟩ := H
    try dsimp only at H
    have A8 := Aside0.mk A80; clear A80; simp only [Option.some.injEq, Prod.mk.injEq] at H; obtain ⟨rfl, rfl, rfl, rfl⟩ := H
    go_wp2_with (first | ((with_reducible refine gate_callee (f := 82) rfl ?_); refine goesL_ (some 10) rfl rfl Tryd.func82 (by kernel_rfl) rfl #[.pointer (some ⟨g, 0, none⟩), .int .i64 26] rfl (by (try simp only [List.map_toArray, List.map_cons, List.map_nil]); first | done | rfl) ?_; refine (spec_l01Src_n.callsA g s0_0 t345 t346 t347 26 t348 t349 t350 t351 w0 _ _ A8.out).mono ?_; rintro e w9 ⟨rfl, hi, hb, hk⟩; refine ⟨_, rfl, ?_⟩; replace HI0 := hi; replace HB := hb; replace HK := hk; clear hi hb hk))
    go_ret
    exact ⟨by first | rfl | (simp [errW_none, errW_some] <;> rfl) | (simp [*, errW_none, errW_some] <;> rfl), isA, belowI, keepA⟩
   replace c7 := Bool.eq_false_iff.mpr c7; subst c7
   have H1 : (if t344 = 3 then ((spec_l01Src_n.f s0_0 t345 t346 t347 26).bind fun bt352 => (some (wrap64 (65 + bt352.1), bt352.2.1, bt352.2.2.1, bt352.2.2.2))) else (if t344 = 4 then ((some (([32, 32, 160, 10, 9, 13, 8064, 173] : List Int) : List Int)).bind fun y356 => ((spec_l01Src_n.f s0_0 t345 t346 t347 8).bind fun bt359 => (if 0 ≤ bt359.1 then (if bt359.1 < (y356.length : Int) then (some (rd y356 bt359.1, bt359.2.1, bt359.2.2.1, bt359.2.2.2)) else (none)) else (none)))) else (if t344 = 5 then ((spec_l01Src_n.f s0_0 t345 t346 t347 10).bind fun bt364 => ((spec_l01Src_n.f s0_0 bt364.2.1 bt364.2.2.1 bt364.2.2.2 10).bind fun bt368 => ((spec_l01Src_n.f s0_0 bt368.2.1 bt368.2.2.1 bt368.2.2.2 10).bind fun bt372 => ((spec_l01Src_n.f s0_0 bt372.2.1 bt372.2.2.1 bt372.2.2.2 10).bind fun bt376 => ((some (([wrap64 (48 + bt364.1), wrap64 (592 + bt368.1), wrap64 (1360 + bt372.1), wrap64 (10016 + bt376.1)] : List Int) : List Int)).bind fun y380 => ((spec_l01Src_n.f s0_0 bt376.2.1 bt376.2.2.1 bt376.2.2.2 4).bind fun bt383 => (if 0 ≤ bt383.1 then (if bt383.1 < (y380.length : Int) then (some (rd y380 bt383.1, bt383.2.1, bt383.2.2.1, bt383.2.2.2)) else (none)) else (none)))))))) else (if t344 = 6 then ((some (([46, 44, 33, 63, 39, 40, 41, 91, 93, 45, 58, 95] : List Int) : List Int)).bind fun y388 => ((spec_l01Src_n.f s0_0 t345 t346 t347 12).bind fun bt391 => (if 0 ≤ bt391.1 then (if bt391.1 < (y388.length : Int) then (some (rd y388 bt391.1, bt391.2.1, bt391.2.2.1, bt391.2.2.2)) else (none)) else (none)))) else (if t344 = 7 then (spec_l01Src_point.j1 kj2 t344 (t344 == 7) s0_0 t345 t346 t347) else (spec_l01Src_point.j1 kj2 t344 (t344 == 8) s0_0 t345 t346 t347)))))) = some (r1, r2, r3, r4) := by rw [if_neg (show ¬ (false = true) by decide)] at H; exact H
   clear H; have H := H1; clear H1
   by_cases c10 : t344 = 3
   ·rw [if_pos c10] at H
    have c10b0 : (t344 == 3) = true := beq_iff_eq.mpr c10; have c10b1 : (t344 != 3) = false := bne_eq_false_iff_eq.mpr c10; clear c10; replace H := Option.bind_eq_some_iff.mp H; obtain ⟨⟨t352, t353, t354, t355⟩, A110, H⟩ := H
    try dsimp only at H
    have A11 := Aside0.mk A110; clear A110; simp only [Option.some.injEq, Prod.mk.injEq] at H; obtain ⟨rfl, rfl, rfl, rfl⟩ := H
    go_wp2_with (first | ((with_reducible refine gate_callee (f := 82) rfl ?_); refine goesL_ (some 15) rfl rfl Tryd.func82 (by kernel_rfl) rfl #[.pointer (some ⟨g, 0, none⟩), .int .i64 26] rfl (by (try simp only [List.map_toArray, List.map_cons, List.map_nil]); first | done | rfl) ?_; refine (spec_l01Src_n.callsA g s0_0 t345 t346 t347 26 t352 t353 t354 t355 w0 _ _ A11.out).mono ?_; rintro e w12 ⟨rfl, hi, hb, hk⟩; refine ⟨_, rfl, ?_⟩; replace HI0 := hi; replace HB := hb; replace HK := hk; clear hi hb hk))
    go_ret
    exact ⟨by first | rfl | (simp [errW_none, errW_some] <;> rfl) | (simp [*, errW_none, errW_some] <;> rfl), isA, belowI, keepA⟩
   rw [if_neg c10] at H; have c10b0 : (t344 == 3) = false := beq_eq_false_iff_ne.mpr c10; have c10b1 : (t344 != 3) = true := bne_iff_ne.mpr c10
   by_cases c13 : t344 = 4
   ·rw [if_pos c13] at H
    have c13b0 : (t344 == 4) = true := beq_iff_eq.mpr c13; have c13b1 : (t344 != 4) = false := bne_eq_false_iff_eq.mpr c13; clear c13; obtain ⟨y356, hy356⟩ : ∃ y_ : List Int, y_ = (([32, 32, 160, 10, 9, 13, 8064, 173] : List Int)) := ⟨_, rfl⟩
    replace H : ((spec_l01Src_n.f s0_0 t345 t346 t347 8).bind fun bt359 => (if 0 ≤ bt359.1 then (if bt359.1 < (y356.length : Int) then (some (rd y356 bt359.1, bt359.2.1, bt359.2.2.1, bt359.2.2.2)) else (none)) else (none))) = some (r1, r2, r3, r4) := by first | (rw [hy356]; with_reducible exact H) | (have H2_ := (Option.bind_some _ _).symm.trans H; rw [hy356]; with_reducible exact H2_) | (have H2_ := (Option.bind_some _ _).symm.trans H; with_reducible exact H2_) | with_reducible exact H | (rw [hy356]; exact H) | exact H
    have Ny356 := Aside0.mk hy356; clear hy356; replace H := Option.bind_eq_some_iff.mp H; obtain ⟨⟨t359, t360, t361, t362⟩, A140, H⟩ := H
    try dsimp only at H
    have A14 := Aside0.mk A140; clear A140
    by_cases c15 : 0 ≤ t359
    ·rw [if_pos c15] at H
     have c15b0 : decide (0 ≤ t359) = true := decide_eq_true c15; clear c15
     by_cases c16 : t359 < (y356.length : Int)
     ·rw [if_pos c16] at H
      have c16b0 : decide (t359 < (y356.length : Int)) = true := decide_eq_true c16; clear c16; simp only [Option.some.injEq, Prod.mk.injEq] at H; obtain ⟨rfl, rfl, rfl, rfl⟩ := H
      go_wp2_with (first | ((with_reducible refine gate_dst (N := 19) rfl ?_); refine Kd.R_lit (Kd.int .i64) _ 2 ?hg (N := 19) ?hd (xs := ([32, 32, 160, 10, 9, 13, 8064, 173] : List Int)) (inner := [.int .i64 32, .int .i64 32, .int .i64 160, .int .i64 10, .int .i64 9, .int .i64 13, .int .i64 8064, .int .i64 173]) (ok := fun _ => True) (okp := fun _ => True) ?hr ?hp (fun _ hk => hk) trivial (Below.refl _ _) (Nat.le_refl _) (by simp) ?_; (case hd => rfl); (case hg => rfl); (case hr => first | (go_simp; done) | (go_simp; rfl)); (case hp => exact (Reps.one (show Kd.M (Kd.int .i64) _ _ _ 32 [.int .i64 32] from rfl) (Reps.one (show Kd.M (Kd.int .i64) _ _ _ 32 [.int .i64 32] from rfl) (Reps.one (show Kd.M (Kd.int .i64) _ _ _ 160 [.int .i64 160] from rfl) (Reps.one (show Kd.M (Kd.int .i64) _ _ _ 10 [.int .i64 10] from rfl) (Reps.one (show Kd.M (Kd.int .i64) _ _ _ 9 [.int .i64 9] from rfl) (Reps.one (show Kd.M (Kd.int .i64) _ _ _ 13 [.int .i64 13] from rfl) (Reps.one (show Kd.M (Kd.int .i64) _ _ _ 8064 [.int .i64 8064] from rfl) (Reps.one (show Kd.M (Kd.int .i64) _ _ _ 173 [.int .i64 173] from rfl) (Reps.none _ _)))))))))); intro v357 w17 ho18 hb hg_ hnew_; clear hg_ hnew_; (first | rw [← Ny356.out] at ho18 | (simp only [Int.reduceToNat] at ho18; rw [← Ny356.out] at ho18)); have n0_ := Aside0.mk (Kd.R_lower ho18 (keep_size (w := w) (g := g) (row := none) (keepA))); have n1_ := Aside0.mk (IsS134.below (isA) hb); have n2_ := Aside0.mk (KeepBut.trans (keepA) (KeepBut.of_below hb g none) (.inl rfl)); have n3_ := Aside0.mk (below_step (belowI) hb); clear HI0; clear HK; clear HB; have HO358 := n0_; have HI0 := n1_; have HK := n2_; have HB := n3_; clear n0_ n1_ n2_ n3_; clear hb ho18) | ((with_reducible refine gate_callee (f := 82) rfl ?_); refine goesL_ (some 21) rfl rfl Tryd.func82 (by kernel_rfl) rfl #[.pointer (some ⟨g, 0, none⟩), .int .i64 8] rfl (by (try simp only [List.map_toArray, List.map_cons, List.map_nil]); first | done | rfl) ?_; (with_reducible refine (spec_l01Src_n.calls g s0_0 t345 t346 t347 8 t359 t360 t361 t362 w0 _ ?side1 ?side2 A14.out).mono ?_); (case side1 => exact isA); (case side2 => exact belowI); rintro e w19 ⟨rfl, hi, hb, hk⟩; refine ⟨_, rfl, ?_⟩; have n0_ := Aside0.mk (Kd.R_mono (Kd.R_keep (IsS134.apart (show IsS134 w0 _ g s0_0 t345 t346 t347 from isA) (by (with_reducible repeat (first | apply Kd.R_alloc | apply Kd.R_drewN | apply Kd.R_drew)); exact HO358.out) (by decide)) hk (fun _ h => h.2)) (fun _ h => h.1)); have n1_ := Aside0.mk (KeepBut.trans (keepA) hk (.inl rfl)); have n2_ := Aside0.mk (hb); have n3_ := Aside0.mk (hi); clear HO358; clear HK; clear HB; clear HI0; have HO358 := n0_; have HK := n1_; have HB := n2_; have HI0 := n3_; clear n0_ n1_ n2_ n3_; (try clear hb); (try clear hb2); (try clear hk); (try clear hi); obtain ⟨Ao20, co20, eo20⟩ := Kd.R_slice HO358.out; subst eo20; have p363 : 0 ≤ (t359 : Int) := of_decide_eq_true (by first | (with_reducible assumption) | assumption); have q363 : t359 < (y356.length : Int) := of_decide_eq_true (by first | (with_reducible assumption) | assumption); obtain ⟨ad363, e363, hx363_0⟩ := Kd.at_int (Kd.R_reads' HO358.out).2.2 t359 p363 q363; cases e363; replace p363 := eq_true p363; replace q363 := eq_true q363))
      go_ret
      exact ⟨by first | rfl | (simp [errW_none, errW_some] <;> rfl) | (simp [*, errW_none, errW_some] <;> rfl), isA, belowI, keepA⟩
     rw [if_neg c16] at H
     exact absurd H (by simp)
    rw [if_neg c15] at H
    exact absurd H (by simp)
   rw [if_neg c13] at H; have c13b0 : (t344 == 4) = false := beq_eq_false_iff_ne.mpr c13; have c13b1 : (t344 != 4) = true := bne_iff_ne.mpr c13
   by_cases c21 : t344 = 5
   ·rw [if_pos c21] at H
    have c21b0 : (t344 == 5) = true := beq_iff_eq.mpr c21; have c21b1 : (t344 != 5) = false := bne_eq_false_iff_eq.mpr c21; clear c21; replace H := Option.bind_eq_some_iff.mp H; obtain ⟨⟨t364, t365, t366, t367⟩, A220, H⟩ := H
    try dsimp only at H
    have A22 := Aside0.mk A220; clear A220; replace H := Option.bind_eq_some_iff.mp H; obtain ⟨⟨t368, t369, t370, t371⟩, A230, H⟩ := H
    try dsimp only at H
    have A23 := Aside0.mk A230; clear A230; replace H := Option.bind_eq_some_iff.mp H; obtain ⟨⟨t372, t373, t374, t375⟩, A240, H⟩ := H
    try dsimp only at H
    have A24 := Aside0.mk A240; clear A240; replace H := Option.bind_eq_some_iff.mp H; obtain ⟨⟨t376, t377, t378, t379⟩, A250, H⟩ := H
    try dsimp only at H
    have A25 := Aside0.mk A250; clear A250; obtain ⟨y380, hy380⟩ : ∃ y_ : List Int, y_ = (([wrap64 (48 + t364), wrap64 (592 + t368), wrap64 (1360 + t372), wrap64 (10016 + t376)] : List Int)) := ⟨_, rfl⟩
    replace H : ((spec_l01Src_n.f s0_0 t377 t378 t379 4).bind fun bt383 => (if 0 ≤ bt383.1 then (if bt383.1 < (y380.length : Int) then (some (rd y380 bt383.1, bt383.2.1, bt383.2.2.1, bt383.2.2.2)) else (none)) else (none))) = some (r1, r2, r3, r4) := by first | (rw [hy380]; with_reducible exact H) | (have H2_ := (Option.bind_some _ _).symm.trans H; rw [hy380]; with_reducible exact H2_) | (have H2_ := (Option.bind_some _ _).symm.trans H; with_reducible exact H2_) | with_reducible exact H | (rw [hy380]; exact H) | exact H
    have Ny380 := Aside0.mk hy380; clear hy380; replace H := Option.bind_eq_some_iff.mp H; obtain ⟨⟨t383, t384, t385, t386⟩, A260, H⟩ := H
    try dsimp only at H
    have A26 := Aside0.mk A260; clear A260
    by_cases c27 : 0 ≤ t383
    ·rw [if_pos c27] at H
     have c27b0 : decide (0 ≤ t383) = true := decide_eq_true c27; clear c27
     by_cases c28 : t383 < (y380.length : Int)
     ·rw [if_pos c28] at H
      have c28b0 : decide (t383 < (y380.length : Int)) = true := decide_eq_true c28; clear c28; simp only [Option.some.injEq, Prod.mk.injEq] at H; obtain ⟨rfl, rfl, rfl, rfl⟩ := H
      go_wp2_with (first | ((with_reducible refine gate_callee (f := 82) rfl ?_); refine goesL_ (some 27) rfl rfl Tryd.func82 (by kernel_rfl) rfl #[.pointer (some ⟨g, 0, none⟩), .int .i64 10] rfl (by (try simp only [List.map_toArray, List.map_cons, List.map_nil]); first | done | rfl) ?_; refine (spec_l01Src_n.callsA g s0_0 t345 t346 t347 10 t364 t365 t366 t367 w0 _ _ A22.out).mono ?_; rintro e w29 ⟨rfl, hi, hb, hk⟩; refine ⟨_, rfl, ?_⟩; replace HI0 := hi; replace HB := hb; replace HK := hk; clear hi hb hk) | ((with_reducible refine gate_callee (f := 82) rfl ?_); refine goesL_ (some 30) rfl rfl Tryd.func82 (by kernel_rfl) rfl #[.pointer (some ⟨g, 0, none⟩), .int .i64 10] rfl (by (try simp only [List.map_toArray, List.map_cons, List.map_nil]); first | done | rfl) ?_; refine (spec_l01Src_n.callsA g s0_0 t365 t366 t367 10 t368 t369 t370 t371 w0 _ _ A23.out).mono ?_; rintro e w30 ⟨rfl, hi, hb, hk⟩; refine ⟨_, rfl, ?_⟩; replace HI0 := hi; replace HB := hb; replace HK := hk; clear hi hb hk) | ((with_reducible refine gate_callee (f := 82) rfl ?_); refine goesL_ (some 33) rfl rfl Tryd.func82 (by kernel_rfl) rfl #[.pointer (some ⟨g, 0, none⟩), .int .i64 10] rfl (by (try simp only [List.map_toArray, List.map_cons, List.map_nil]); first | done | rfl) ?_; refine (spec_l01Src_n.callsA g s0_0 t369 t370 t371 10 t372 t373 t374 t375 w0 _ _ A24.out).mono ?_; rintro e w31 ⟨rfl, hi, hb, hk⟩; refine ⟨_, rfl, ?_⟩; replace HI0 := hi; replace HB := hb; replace HK := hk; clear hi hb hk) | ((with_reducible refine gate_callee (f := 82) rfl ?_); refine goesL_ (some 36) rfl rfl Tryd.func82 (by kernel_rfl) rfl #[.pointer (some ⟨g, 0, none⟩), .int .i64 10] rfl (by (try simp only [List.map_toArray, List.map_cons, List.map_nil]); first | done | rfl) ?_; refine (spec_l01Src_n.callsA g s0_0 t373 t374 t375 10 t376 t377 t378 t379 w0 _ _ A25.out).mono ?_; rintro e w32 ⟨rfl, hi, hb, hk⟩; refine ⟨_, rfl, ?_⟩; replace HI0 := hi; replace HB := hb; replace HK := hk; clear hi hb hk) | ((with_reducible refine gate_dst (N := 38) rfl ?_); refine Kd.R_lit (Kd.int .i64) _ 2 ?hg (N := 38) ?hd (xs := ([wrap64 (48 + t364), wrap64 (592 + t368), wrap64 (1360 + t372), wrap64 (10016 + t376)] : List Int)) (inner := [.int .i64 (wrap64 (48 + t364)), .int .i64 (wrap64 (592 + t368)), .int .i64 (wrap64 (1360 + t372)), .int .i64 (wrap64 (10016 + t376))]) (ok := fun _ => True) (okp := fun _ => True) ?hr ?hp (fun _ hk => hk) trivial (Below.refl _ _) (Nat.le_refl _) (by simp) ?_; (case hd => rfl); (case hg => rfl); (case hr => first | (go_simp; done) | (go_simp; rfl)); (case hp => exact (Reps.one (show Kd.M (Kd.int .i64) _ _ _ (wrap64 (48 + t364)) [.int .i64 (wrap64 (48 + t364))] from rfl) (Reps.one (show Kd.M (Kd.int .i64) _ _ _ (wrap64 (592 + t368)) [.int .i64 (wrap64 (592 + t368))] from rfl) (Reps.one (show Kd.M (Kd.int .i64) _ _ _ (wrap64 (1360 + t372)) [.int .i64 (wrap64 (1360 + t372))] from rfl) (Reps.one (show Kd.M (Kd.int .i64) _ _ _ (wrap64 (10016 + t376)) [.int .i64 (wrap64 (10016 + t376))] from rfl) (Reps.none _ _)))))); intro v381 w33 ho34 hb hg_ hnew_; clear hg_ hnew_; (first | rw [← Ny380.out] at ho34 | (simp only [Int.reduceToNat] at ho34; rw [← Ny380.out] at ho34)); have n0_ := Aside0.mk (Kd.R_lower ho34 (keep_size (w := w) (g := g) (row := none) (keepA))); have n1_ := Aside0.mk (IsS134.below (isA) hb); have n2_ := Aside0.mk (KeepBut.trans (keepA) (KeepBut.of_below hb g none) (.inl rfl)); have n3_ := Aside0.mk (below_step (belowI) hb); clear HI0; clear HK; clear HB; have HO382 := n0_; have HI0 := n1_; have HK := n2_; have HB := n3_; clear n0_ n1_ n2_ n3_; clear hb ho34) | ((with_reducible refine gate_callee (f := 82) rfl ?_); refine goesL_ (some 40) rfl rfl Tryd.func82 (by kernel_rfl) rfl #[.pointer (some ⟨g, 0, none⟩), .int .i64 4] rfl (by (try simp only [List.map_toArray, List.map_cons, List.map_nil]); first | done | rfl) ?_; (with_reducible refine (spec_l01Src_n.calls g s0_0 t377 t378 t379 4 t383 t384 t385 t386 w0 _ ?side1 ?side2 A26.out).mono ?_); (case side1 => exact isA); (case side2 => exact belowI); rintro e w35 ⟨rfl, hi, hb, hk⟩; refine ⟨_, rfl, ?_⟩; have n0_ := Aside0.mk (Kd.R_mono (Kd.R_keep (IsS134.apart (show IsS134 w0 _ g s0_0 t377 t378 t379 from isA) (by (with_reducible repeat (first | apply Kd.R_alloc | apply Kd.R_drewN | apply Kd.R_drew)); exact HO382.out) (by decide)) hk (fun _ h => h.2)) (fun _ h => h.1)); have n1_ := Aside0.mk (KeepBut.trans (keepA) hk (.inl rfl)); have n2_ := Aside0.mk (hb); have n3_ := Aside0.mk (hi); clear HO382; clear HK; clear HB; clear HI0; have HO382 := n0_; have HK := n1_; have HB := n2_; have HI0 := n3_; clear n0_ n1_ n2_ n3_; (try clear hb); (try clear hb2); (try clear hk); (try clear hi); obtain ⟨Ao36, co36, eo36⟩ := Kd.R_slice HO382.out; subst eo36; have p387 : 0 ≤ (t383 : Int) := of_decide_eq_true (by first | (with_reducible assumption) | assumption); have q387 : t383 < (y380.length : Int) := of_decide_eq_true (by first | (with_reducible assumption) | assumption); obtain ⟨ad387, e387, hx387_0⟩ := Kd.at_int (Kd.R_reads' HO382.out).2.2 t383 p387 q387; cases e387; replace p387 := eq_true p387; replace q387 := eq_true q387))
      go_ret
      exact ⟨by first | rfl | (simp [errW_none, errW_some] <;> rfl) | (simp [*, errW_none, errW_some] <;> rfl), isA, belowI, keepA⟩
     rw [if_neg c28] at H
     exact absurd H (by simp)
    rw [if_neg c27] at H
    exact absurd H (by simp)
   rw [if_neg c21] at H; have c21b0 : (t344 == 5) = false := beq_eq_false_iff_ne.mpr c21; have c21b1 : (t344 != 5) = true := bne_iff_ne.mpr c21
   by_cases c37 : t344 = 6
   ·rw [if_pos c37] at H
    have c37b0 : (t344 == 6) = true := beq_iff_eq.mpr c37; have c37b1 : (t344 != 6) = false := bne_eq_false_iff_eq.mpr c37; clear c37; obtain ⟨y388, hy388⟩ : ∃ y_ : List Int, y_ = (([46, 44, 33, 63, 39, 40, 41, 91, 93, 45, 58, 95] : List Int)) := ⟨_, rfl⟩
    replace H : ((spec_l01Src_n.f s0_0 t345 t346 t347 12).bind fun bt391 => (if 0 ≤ bt391.1 then (if bt391.1 < (y388.length : Int) then (some (rd y388 bt391.1, bt391.2.1, bt391.2.2.1, bt391.2.2.2)) else (none)) else (none))) = some (r1, r2, r3, r4) := by first | (rw [hy388]; with_reducible exact H) | (have H2_ := (Option.bind_some _ _).symm.trans H; rw [hy388]; with_reducible exact H2_) | (have H2_ := (Option.bind_some _ _).symm.trans H; with_reducible exact H2_) | with_reducible exact H | (rw [hy388]; exact H) | exact H
    have Ny388 := Aside0.mk hy388; clear hy388; replace H := Option.bind_eq_some_iff.mp H; obtain ⟨⟨t391, t392, t393, t394⟩, A380, H⟩ := H
    try dsimp only at H
    have A38 := Aside0.mk A380; clear A380
    by_cases c39 : 0 ≤ t391
    ·rw [if_pos c39] at H
     have c39b0 : decide (0 ≤ t391) = true := decide_eq_true c39; clear c39
     by_cases c40 : t391 < (y388.length : Int)
     ·rw [if_pos c40] at H
      have c40b0 : decide (t391 < (y388.length : Int)) = true := decide_eq_true c40; clear c40; simp only [Option.some.injEq, Prod.mk.injEq] at H; obtain ⟨rfl, rfl, rfl, rfl⟩ := H
      go_wp2_with (first | ((with_reducible refine gate_dst (N := 45) rfl ?_); refine Kd.R_lit (Kd.int .i64) _ 2 ?hg (N := 45) ?hd (xs := ([46, 44, 33, 63, 39, 40, 41, 91, 93, 45, 58, 95] : List Int)) (inner := [.int .i64 46, .int .i64 44, .int .i64 33, .int .i64 63, .int .i64 39, .int .i64 40, .int .i64 41, .int .i64 91, .int .i64 93, .int .i64 45, .int .i64 58, .int .i64 95]) (ok := fun _ => True) (okp := fun _ => True) ?hr ?hp (fun _ hk => hk) trivial (Below.refl _ _) (Nat.le_refl _) (by simp) ?_; (case hd => rfl); (case hg => rfl); (case hr => first | (go_simp; done) | (go_simp; rfl)); (case hp => exact (Reps.one (show Kd.M (Kd.int .i64) _ _ _ 46 [.int .i64 46] from rfl) (Reps.one (show Kd.M (Kd.int .i64) _ _ _ 44 [.int .i64 44] from rfl) (Reps.one (show Kd.M (Kd.int .i64) _ _ _ 33 [.int .i64 33] from rfl) (Reps.one (show Kd.M (Kd.int .i64) _ _ _ 63 [.int .i64 63] from rfl) (Reps.one (show Kd.M (Kd.int .i64) _ _ _ 39 [.int .i64 39] from rfl) (Reps.one (show Kd.M (Kd.int .i64) _ _ _ 40 [.int .i64 40] from rfl) (Reps.one (show Kd.M (Kd.int .i64) _ _ _ 41 [.int .i64 41] from rfl) (Reps.one (show Kd.M (Kd.int .i64) _ _ _ 91 [.int .i64 91] from rfl) (Reps.one (show Kd.M (Kd.int .i64) _ _ _ 93 [.int .i64 93] from rfl) (Reps.one (show Kd.M (Kd.int .i64) _ _ _ 45 [.int .i64 45] from rfl) (Reps.one (show Kd.M (Kd.int .i64) _ _ _ 58 [.int .i64 58] from rfl) (Reps.one (show Kd.M (Kd.int .i64) _ _ _ 95 [.int .i64 95] from rfl) (Reps.none _ _)))))))))))))); intro v389 w41 ho42 hb hg_ hnew_; clear hg_ hnew_; (first | rw [← Ny388.out] at ho42 | (simp only [Int.reduceToNat] at ho42; rw [← Ny388.out] at ho42)); have n0_ := Aside0.mk (Kd.R_lower ho42 (keep_size (w := w) (g := g) (row := none) (keepA))); have n1_ := Aside0.mk (IsS134.below (isA) hb); have n2_ := Aside0.mk (KeepBut.trans (keepA) (KeepBut.of_below hb g none) (.inl rfl)); have n3_ := Aside0.mk (below_step (belowI) hb); clear HI0; clear HK; clear HB; have HO390 := n0_; have HI0 := n1_; have HK := n2_; have HB := n3_; clear n0_ n1_ n2_ n3_; clear hb ho42) | ((with_reducible refine gate_callee (f := 82) rfl ?_); refine goesL_ (some 47) rfl rfl Tryd.func82 (by kernel_rfl) rfl #[.pointer (some ⟨g, 0, none⟩), .int .i64 12] rfl (by (try simp only [List.map_toArray, List.map_cons, List.map_nil]); first | done | rfl) ?_; (with_reducible refine (spec_l01Src_n.calls g s0_0 t345 t346 t347 12 t391 t392 t393 t394 w0 _ ?side1 ?side2 A38.out).mono ?_); (case side1 => exact isA); (case side2 => exact belowI); rintro e w43 ⟨rfl, hi, hb, hk⟩; refine ⟨_, rfl, ?_⟩; have n0_ := Aside0.mk (Kd.R_mono (Kd.R_keep (IsS134.apart (show IsS134 w0 _ g s0_0 t345 t346 t347 from isA) (by (with_reducible repeat (first | apply Kd.R_alloc | apply Kd.R_drewN | apply Kd.R_drew)); exact HO390.out) (by decide)) hk (fun _ h => h.2)) (fun _ h => h.1)); have n1_ := Aside0.mk (KeepBut.trans (keepA) hk (.inl rfl)); have n2_ := Aside0.mk (hb); have n3_ := Aside0.mk (hi); clear HO390; clear HK; clear HB; clear HI0; have HO390 := n0_; have HK := n1_; have HB := n2_; have HI0 := n3_; clear n0_ n1_ n2_ n3_; (try clear hb); (try clear hb2); (try clear hk); (try clear hi); obtain ⟨Ao44, co44, eo44⟩ := Kd.R_slice HO390.out; subst eo44; have p395 : 0 ≤ (t391 : Int) := of_decide_eq_true (by first | (with_reducible assumption) | assumption); have q395 : t391 < (y388.length : Int) := of_decide_eq_true (by first | (with_reducible assumption) | assumption); obtain ⟨ad395, e395, hx395_0⟩ := Kd.at_int (Kd.R_reads' HO390.out).2.2 t391 p395 q395; cases e395; replace p395 := eq_true p395; replace q395 := eq_true q395))
      go_ret
      exact ⟨by first | rfl | (simp [errW_none, errW_some] <;> rfl) | (simp [*, errW_none, errW_some] <;> rfl), isA, belowI, keepA⟩
     rw [if_neg c40] at H
     exact absurd H (by simp)
    rw [if_neg c39] at H
    exact absurd H (by simp)
   rw [if_neg c37] at H; have c37b0 : (t344 == 6) = false := beq_eq_false_iff_ne.mpr c37; have c37b1 : (t344 != 6) = true := bne_iff_ne.mpr c37; have HC45 := Aside0.mk H; clear H
   go_upto_if 50 with (fail)
   go_cut [50] (fun v50 wc => ∃ (kq : Nat) (x50_44 : Bool), v50 = .bool x50_44 ∧ Aside0 (spec_l01Src_point.j1 kq t344 x50_44 s0_0 t345 t346 t347 = some (r1, r2, r3, r4)) ∧ Aside0 (kq ≤ kj2) ∧ Aside0 (IsS134 w0 wc g s0_0 t345 t346 t347) ∧ Aside0 (KeepBut w wc g none) ∧ Aside0 (Below w0.heap.size w0 wc))
   case first =>
    have H := HC45.out; clear HC45
    by_cases c46 : t344 = 7
    ·exfalso
     have h_ := HV.out; rw [c46] at h_
     exact absurd h_ (by decide)
    rw [if_neg c46] at H; have c46b0 : (t344 == 7) = false := beq_eq_false_iff_ne.mpr c46; have c46b1 : (t344 != 7) = true := bne_iff_ne.mpr c46
    (first | rw [c46b0] | (simp only [i64_w, i32_w]; rw [c46b0]) | skip)
    have H' := Aside0.mk H; clear H
    go_wp2
    go_meet
    case rel => exact ⟨_, ((t344 == 8)), (by first | rfl | (simp; done) | (simp [*]; done)), H', ⟨by have := HJ2.out; first | omega | exact Nat.le_refl _⟩, ⟨isA⟩, ⟨keepA⟩, ⟨belowI⟩⟩
   case rest =>
    clear HC45
    try clear c1; try clear c2; try clear p2; try clear c3; try clear p3; try clear q3; try clear hx3; try clear c4; try clear c5; try clear c5b0; try clear c5b1; try clear c6; try clear c6b0; try clear c6b1; try clear p6; try clear c7; try clear c8; try clear c10; try clear c10b0; try clear c10b1; try clear c13; try clear c13b0; try clear c13b1; try clear c15; try clear c15b0; try clear c16; try clear c16b0; try clear c17; try clear c21; try clear c21b0; try clear c21b1; try clear c27; try clear c27b0; try clear c28; try clear c28b0; try clear p36; try clear q36; try clear hx36; try clear c37; try clear c37b0; try clear c37b1; try clear p38; try clear q38; try clear hx38; try clear c39; try clear c39b0; try clear p39; try clear q39; try clear hx39; try clear c40; try clear c40b0; try clear c46; try clear c46b0; try clear c46b1; try clear hx363_0; try clear hx387_0; try clear hx395_0; try clear p2; try clear p363; try clear p387; try clear p395; try clear q363; try clear q387; try clear q395
    obtain ⟨kq, x50_44, rfl, HA, HJ44, HI0, HK, HB⟩ := hcut
    cases kq with
    | zero => exact absurd HA.out (by simp [spec_l01Src_point.j1])
    | succ kj44 =>
     have H := HA.out; clear HA; simp only [spec_l01Src_point.j1] at H
     by_cases c47 : x50_44 = true
     ·subst c47
      have H1 : ((spec_l01Src_n.f s0_0 t345 t346 t347 3).bind fun bt396 => ((spec_l01Src_n.f s0_0 bt396.2.1 bt396.2.2.1 bt396.2.2.2 76).bind fun bt400 => (some (wrap64 ((wrap64 (512 + (wrap64 (256 * bt396.1)))) + bt400.1), bt400.2.1, bt400.2.2.1, bt400.2.2.2)))) = some (r1, r2, r3, r4) := by rw [if_pos rfl] at H; exact H
      clear H; have H := H1; clear H1; replace H := Option.bind_eq_some_iff.mp H; obtain ⟨⟨t396, t397, t398, t399⟩, A480, H⟩ := H
      try dsimp only at H
      have A48 := Aside0.mk A480; clear A480; replace H := Option.bind_eq_some_iff.mp H; obtain ⟨⟨t400, t401, t402, t403⟩, A490, H⟩ := H
      try dsimp only at H
      have A49 := Aside0.mk A490; clear A490; simp only [Option.some.injEq, Prod.mk.injEq] at H; obtain ⟨rfl, rfl, rfl, rfl⟩ := H
      go_wp2_with (first | ((with_reducible refine gate_callee (f := 82) rfl ?_); refine goesL_ (some 54) rfl rfl Tryd.func82 (by kernel_rfl) rfl #[.pointer (some ⟨g, 0, none⟩), .int .i64 3] rfl (by (try simp only [List.map_toArray, List.map_cons, List.map_nil]); first | done | rfl) ?_; refine (spec_l01Src_n.callsA g s0_0 t345 t346 t347 3 t396 t397 t398 t399 w0 _ _ A48.out).mono ?_; rintro e w50 ⟨rfl, hi, hb, hk⟩; refine ⟨_, rfl, ?_⟩; replace HI0 := hi; replace HB := hb; replace HK := hk; clear hi hb hk) | ((with_reducible refine gate_callee (f := 82) rfl ?_); refine goesL_ (some 58) rfl rfl Tryd.func82 (by kernel_rfl) rfl #[.pointer (some ⟨g, 0, none⟩), .int .i64 76] rfl (by (try simp only [List.map_toArray, List.map_cons, List.map_nil]); first | done | rfl) ?_; refine (spec_l01Src_n.callsA g s0_0 t397 t398 t399 76 t400 t401 t402 t403 w0 _ _ A49.out).mono ?_; rintro e w51 ⟨rfl, hi, hb, hk⟩; refine ⟨_, rfl, ?_⟩; replace HI0 := hi; replace HB := hb; replace HK := hk; clear hi hb hk))
      go_ret
      exact ⟨by first | rfl | (simp [errW_none, errW_some] <;> rfl) | (simp [*, errW_none, errW_some] <;> rfl), isA, belowI, keepA⟩
     replace c47 := Bool.eq_false_iff.mpr c47; subst c47
     have H1 : (if t344 = 9 then ((spec_l01Src_n.f s0_0 t345 t346 t347 3).bind fun bt404 => ((spec_l01Src_n.f s0_0 bt404.2.1 bt404.2.2.1 bt404.2.2.2 2).bind fun bt408 => (some (wrap64 ((wrap64 ((wrap64 (512 + (wrap64 (256 * bt404.1)))) + 96)) + bt408.1), bt408.2.1, bt408.2.2.1, bt408.2.2.2)))) else (if t344 = 10 then (spec_l01Src_point.j2 kj44 t344 (t344 == 10) s0_0 t345 t346 t347) else (spec_l01Src_point.j2 kj44 t344 (t344 == 11) s0_0 t345 t346 t347))) = some (r1, r2, r3, r4) := by rw [if_neg (show ¬ (false = true) by decide)] at H; exact H
     clear H; have H := H1; clear H1
     by_cases c52 : t344 = 9
     ·exfalso
      have h_ := HV.out; rw [c52] at h_
      exact absurd h_ (by decide)
     rw [if_neg c52] at H; have c52b0 : (t344 == 9) = false := beq_eq_false_iff_ne.mpr c52; have c52b1 : (t344 != 9) = true := bne_iff_ne.mpr c52; have HC57 := Aside0.mk H; clear H
     go_upto_if 70 with (fail)
     go_cut [70] (fun v70 wc => ∃ (kq : Nat) (x70_56 : Bool), v70 = .bool x70_56 ∧ Aside0 (spec_l01Src_point.j2 kq t344 x70_56 s0_0 t345 t346 t347 = some (r1, r2, r3, r4)) ∧ Aside0 (kq ≤ kj44) ∧ Aside0 (IsS134 w0 wc g s0_0 t345 t346 t347) ∧ Aside0 (KeepBut w wc g none) ∧ Aside0 (Below w0.heap.size w0 wc))
     case first =>
      have H := HC57.out; clear HC57
      by_cases c58 : t344 = 10
      ·exfalso
       have h_ := HV.out; rw [c58] at h_
       exact absurd h_ (by decide)
      rw [if_neg c58] at H; have c58b0 : (t344 == 10) = false := beq_eq_false_iff_ne.mpr c58; have c58b1 : (t344 != 10) = true := bne_iff_ne.mpr c58
      (first | rw [c58b0] | (simp only [i64_w, i32_w]; rw [c58b0]) | skip)
      have H' := Aside0.mk H; clear H
      go_wp2
      go_meet
      case rel => exact ⟨_, ((t344 == 11)), (by first | rfl | (simp; done) | (simp [*]; done)), H', ⟨by have := HJ2.out; have := HJ44.out; first | omega | exact Nat.le_refl _⟩, ⟨isA⟩, ⟨keepA⟩, ⟨belowI⟩⟩
     case rest =>
      clear HC57
      try clear c1; try clear c2; try clear p2; try clear c3; try clear p3; try clear q3; try clear hx3; try clear c4; try clear c5; try clear c5b0; try clear c5b1; try clear c6; try clear c6b0; try clear c6b1; try clear p6; try clear c7; try clear c8; try clear c10; try clear c10b0; try clear c10b1; try clear c13; try clear c13b0; try clear c13b1; try clear c15; try clear c15b0; try clear c16; try clear c16b0; try clear c17; try clear c21; try clear c21b0; try clear c21b1; try clear c27; try clear c27b0; try clear c28; try clear c28b0; try clear p36; try clear q36; try clear hx36; try clear c37; try clear c37b0; try clear c37b1; try clear p38; try clear q38; try clear hx38; try clear c39; try clear c39b0; try clear p39; try clear q39; try clear hx39; try clear c40; try clear c40b0; try clear c46; try clear c46b0; try clear c46b1; try clear c47; try clear c52; try clear c52b0; try clear c52b1; try clear c58; try clear c58b0; try clear c58b1; try clear hx363_0; try clear hx387_0; try clear hx395_0; try clear p2; try clear p3; try clear p36; try clear p363; try clear p38; try clear p387; try clear p39; try clear p395; try clear p6; try clear q3; try clear q36; try clear q363; try clear q38; try clear q387; try clear q39; try clear q395
      obtain ⟨kq, x70_56, rfl, HA, HJ56, HI0, HK, HB⟩ := hcut
      cases kq with
      | zero => exact absurd HA.out (by simp [spec_l01Src_point.j2])
      | succ kj56 =>
       have H := HA.out; clear HA; simp only [spec_l01Src_point.j2] at H
       by_cases c59 : x70_56 = true
       ·subst c59
        have H1 : ((spec_l01Src_n.f s0_0 t345 t346 t347 32).bind fun bt412 => (some (wrap64 (1280 + bt412.1), bt412.2.1, bt412.2.2.1, bt412.2.2.2))) = some (r1, r2, r3, r4) := by rw [if_pos rfl] at H; exact H
        clear H; have H := H1; clear H1; replace H := Option.bind_eq_some_iff.mp H; obtain ⟨⟨t412, t413, t414, t415⟩, A600, H⟩ := H
        try dsimp only at H
        have A60 := Aside0.mk A600; clear A600; simp only [Option.some.injEq, Prod.mk.injEq] at H; obtain ⟨rfl, rfl, rfl, rfl⟩ := H
        go_wp2_with (first | ((with_reducible refine gate_callee (f := 82) rfl ?_); refine goesL_ (some 74) rfl rfl Tryd.func82 (by kernel_rfl) rfl #[.pointer (some ⟨g, 0, none⟩), .int .i64 32] rfl (by (try simp only [List.map_toArray, List.map_cons, List.map_nil]); first | done | rfl) ?_; refine (spec_l01Src_n.callsA g s0_0 t345 t346 t347 32 t412 t413 t414 t415 w0 _ _ A60.out).mono ?_; rintro e w61 ⟨rfl, hi, hb, hk⟩; refine ⟨_, rfl, ?_⟩; replace HI0 := hi; replace HB := hb; replace HK := hk; clear hi hb hk))
        go_ret
        exact ⟨by first | rfl | (simp [errW_none, errW_some] <;> rfl) | (simp [*, errW_none, errW_some] <;> rfl), isA, belowI, keepA⟩
       replace c59 := Bool.eq_false_iff.mpr c59; subst c59
       have H1 : (if t344 = 12 then ((spec_l01Src_n.f s0_0 t345 t346 t347 32).bind fun bt416 => ((spec_l01Src_n.f s0_0 bt416.2.1 bt416.2.2.1 bt416.2.2.2 12).bind fun bt420 => ((some (([wrap64 (1536 + bt416.1), wrap64 (1568 + bt420.1), 1584, 1585] : List Int) : List Int)).bind fun y424 => ((spec_l01Src_n.f s0_0 bt420.2.1 bt420.2.2.1 bt420.2.2.2 4).bind fun bt427 => (if 0 ≤ bt427.1 then (if bt427.1 < (y424.length : Int) then (some (rd y424 bt427.1, bt427.2.1, bt427.2.2.1, bt427.2.2.2)) else (none)) else (none)))))) else (if t344 = 13 then ((spec_l01Src_n.f s0_0 t345 t346 t347 19).bind fun bt432 => ((spec_l01Src_n.f s0_0 bt432.2.1 bt432.2.2.1 bt432.2.2.2 21).bind fun bt436 => ((spec_l01Src_n.f s0_0 bt436.2.1 bt436.2.2.1 bt436.2.2.2 27).bind fun bt440 => ((some (([wrap64 (1792 + bt432.1), wrap64 (1824 + bt436.1), wrap64 (1857 + bt440.1)] : List Int) : List Int)).bind fun y444 => ((spec_l01Src_n.f s0_0 bt440.2.1 bt440.2.2.1 bt440.2.2.2 3).bind fun bt447 => (if 0 ≤ bt447.1 then (if bt447.1 < (y444.length : Int) then (some (rd y444 bt447.1, bt447.2.1, bt447.2.2.1, bt447.2.2.2)) else (none)) else (none))))))) else (if t344 = 14 then ((spec_l01Src_n.f s0_0 t345 t346 t347 48).bind fun bt452 => (some (wrap64 (2048 + bt452.1), bt452.2.1, bt452.2.2.1, bt452.2.2.2))) else (if t344 = 15 then (spec_l01Src_point.j3 kj56 t344 (t344 == 15) s0_0 t345 t346 t347) else (spec_l01Src_point.j3 kj56 t344 (t344 == 16) s0_0 t345 t346 t347))))) = some (r1, r2, r3, r4) := by rw [if_neg (show ¬ (false = true) by decide)] at H; exact H
       clear H; have H := H1; clear H1
       by_cases c62 : t344 = 12
       ·exfalso
        have h_ := HV.out; rw [c62] at h_
        exact absurd h_ (by decide)
       rw [if_neg c62] at H; have c62b0 : (t344 == 12) = false := beq_eq_false_iff_ne.mpr c62; have c62b1 : (t344 != 12) = true := bne_iff_ne.mpr c62
       by_cases c74 : t344 = 13
       ·exfalso
        have h_ := HV.out; rw [c74] at h_
        exact absurd h_ (by decide)
       rw [if_neg c74] at H; have c74b0 : (t344 == 13) = false := beq_eq_false_iff_ne.mpr c74; have c74b1 : (t344 != 13) = true := bne_iff_ne.mpr c74
       by_cases c88 : t344 = 14
       ·exfalso
        have h_ := HV.out; rw [c88] at h_
        exact absurd h_ (by decide)
       rw [if_neg c88] at H; have c88b0 : (t344 == 14) = false := beq_eq_false_iff_ne.mpr c88; have c88b1 : (t344 != 14) = true := bne_iff_ne.mpr c88; have HC91 := Aside0.mk H; clear H
       go_upto_if 110 with (fail)
       go_cut [110] (fun v110 wc => ∃ (kq : Nat) (x110_90 : Bool), v110 = .bool x110_90 ∧ Aside0 (spec_l01Src_point.j3 kq t344 x110_90 s0_0 t345 t346 t347 = some (r1, r2, r3, r4)) ∧ Aside0 (kq ≤ kj56) ∧ Aside0 (IsS134 w0 wc g s0_0 t345 t346 t347) ∧ Aside0 (KeepBut w wc g none) ∧ Aside0 (Below w0.heap.size w0 wc))
       case first =>
        have H := HC91.out; clear HC91
        by_cases c92 : t344 = 15
        ·exfalso
         have h_ := HV.out; rw [c92] at h_
         exact absurd h_ (by decide)
        rw [if_neg c92] at H; have c92b0 : (t344 == 15) = false := beq_eq_false_iff_ne.mpr c92; have c92b1 : (t344 != 15) = true := bne_iff_ne.mpr c92
        (first | rw [c92b0] | (simp only [i64_w, i32_w]; rw [c92b0]) | skip)
        have H' := Aside0.mk H; clear H
        go_wp2
        go_meet
        case rel => exact ⟨_, ((t344 == 16)), (by first | rfl | (simp; done) | (simp [*]; done)), H', ⟨by have := HJ2.out; have := HJ44.out; have := HJ56.out; first | omega | exact Nat.le_refl _⟩, ⟨isA⟩, ⟨keepA⟩, ⟨belowI⟩⟩
       case rest =>
        clear HC91
        try clear c1; try clear c2; try clear p2; try clear c3; try clear p3; try clear q3; try clear hx3; try clear c4; try clear p4; try clear q4; try clear hx4; try clear c5; try clear c5b0; try clear c5b1; try clear c6; try clear c6b0; try clear c6b1; try clear p6; try clear c7; try clear c8; try clear c9; try clear c10; try clear c10b0; try clear c10b1; try clear c13; try clear c13b0; try clear c13b1; try clear c15; try clear c15b0; try clear c16; try clear c16b0; try clear c17; try clear c21; try clear c21b0; try clear c21b1; try clear c27; try clear c27b0; try clear c28; try clear c28b0; try clear p36; try clear q36; try clear hx36; try clear c37; try clear c37b0; try clear c37b1; try clear p38; try clear q38; try clear hx38; try clear c39; try clear c39b0; try clear p39; try clear q39; try clear hx39; try clear c40; try clear c40b0; try clear p43; try clear q43; try clear hx43; try clear p45; try clear q45; try clear hx45; try clear c46; try clear c46b0; try clear c46b1; try clear c47; try clear c52; try clear c52b0; try clear c52b1; try clear c58; try clear c58b0; try clear c58b1; try clear c59; try clear c62; try clear c62b0; try clear c62b1; try clear p64; try clear c66; try clear c66b0; try clear c67; try clear c67b0; try clear c74; try clear c74b0; try clear c74b1; try clear c79; try clear c79b0; try clear c80; try clear c80b0; try clear c82; try clear c88; try clear c88b0; try clear c88b1; try clear c92; try clear c92b0; try clear c92b1; try clear hx363_0; try clear hx387_0; try clear hx395_0; try clear hx431_0; try clear hx451_0; try clear p2; try clear p3; try clear p36; try clear p363; try clear p38; try clear p387; try clear p39; try clear p395; try clear p431; try clear p451; try clear p6; try clear q3; try clear q36; try clear q363; try clear q38; try clear q387; try clear q39; try clear q395; try clear q431; try clear q451
        obtain ⟨kq, x110_90, rfl, HA, HJ90, HI0, HK, HB⟩ := hcut
        cases kq with
        | zero => exact absurd HA.out (by simp [spec_l01Src_point.j3])
        | succ kj90 =>
         have H := HA.out; clear HA; simp only [spec_l01Src_point.j3] at H
         by_cases c93 : x110_90 = true
         ·subst c93
          have H1 : ((spec_l01Src_n.f s0_0 t345 t346 t347 64).bind fun bt456 => (some (wrap64 (4096 + bt456.1), bt456.2.1, bt456.2.2.1, bt456.2.2.2))) = some (r1, r2, r3, r4) := by rw [if_pos rfl] at H; exact H
          clear H; have H := H1; clear H1; replace H := Option.bind_eq_some_iff.mp H; obtain ⟨⟨t456, t457, t458, t459⟩, A940, H⟩ := H
          try dsimp only at H
          have A94 := Aside0.mk A940; clear A940; simp only [Option.some.injEq, Prod.mk.injEq] at H; obtain ⟨rfl, rfl, rfl, rfl⟩ := H
          go_wp2_with (first | ((with_reducible refine gate_callee (f := 82) rfl ?_); refine goesL_ (some 114) rfl rfl Tryd.func82 (by kernel_rfl) rfl #[.pointer (some ⟨g, 0, none⟩), .int .i64 64] rfl (by (try simp only [List.map_toArray, List.map_cons, List.map_nil]); first | done | rfl) ?_; refine (spec_l01Src_n.callsA g s0_0 t345 t346 t347 64 t456 t457 t458 t459 w0 _ _ A94.out).mono ?_; rintro e w95 ⟨rfl, hi, hb, hk⟩; refine ⟨_, rfl, ?_⟩; replace HI0 := hi; replace HB := hb; replace HK := hk; clear hi hb hk))
          go_ret
          exact ⟨by first | rfl | (simp [errW_none, errW_some] <;> rfl) | (simp [*, errW_none, errW_some] <;> rfl), isA, belowI, keepA⟩
         replace c93 := Bool.eq_false_iff.mpr c93; subst c93
         have H1 : (if t344 = 17 then ((spec_l01Src_n.f s0_0 t345 t346 t347 64).bind fun bt460 => ((spec_l01Src_n.f s0_0 bt460.2.1 bt460.2.2.1 bt460.2.2.2 5).bind fun bt464 => ((spec_l01Src_n.f s0_0 bt464.2.1 bt464.2.2.1 bt464.2.2.2 26).bind fun bt468 => ((some (([wrap64 (7680 + bt460.1), wrap64 (7744 + bt464.1), wrap64 (7760 + bt468.1)] : List Int) : List Int)).bind fun y472 => ((spec_l01Src_n.f s0_0 bt468.2.1 bt468.2.2.1 bt468.2.2.2 3).bind fun bt475 => (if 0 ≤ bt475.1 then (if bt475.1 < (y472.length : Int) then (some (rd y472 bt475.1, bt475.2.1, bt475.2.2.1, bt475.2.2.2)) else (none)) else (none))))))) else (if t344 = 18 then ((spec_l01Src_n.f s0_0 t345 t346 t347 12).bind fun bt480 => ((some (([wrap64 (7936 + bt480.1), 7953, 7954] : List Int) : List Int)).bind fun y484 => ((spec_l01Src_n.f s0_0 bt480.2.1 bt480.2.2.1 bt480.2.2.2 3).bind fun bt487 => (if 0 ≤ bt487.1 then (if bt487.1 < (y484.length : Int) then (some (rd y484 bt487.1, bt487.2.1, bt487.2.2.1, bt487.2.2.2)) else (none)) else (none))))) else (if t344 = 19 then (spec_l01Src_point.j4 kj90 t344 (t344 == 19) s0_0 t345 t346 t347) else (spec_l01Src_point.j4 kj90 t344 (t344 == 20) s0_0 t345 t346 t347)))) = some (r1, r2, r3, r4) := by rw [if_neg (show ¬ (false = true) by decide)] at H; exact H
         clear H; have H := H1; clear H1
         by_cases c96 : t344 = 17
         ·exfalso
          have h_ := HV.out; rw [c96] at h_
          exact absurd h_ (by decide)
         rw [if_neg c96] at H; have c96b0 : (t344 == 17) = false := beq_eq_false_iff_ne.mpr c96; have c96b1 : (t344 != 17) = true := bne_iff_ne.mpr c96
         by_cases c110 : t344 = 18
         ·exfalso
          have h_ := HV.out; rw [c110] at h_
          exact absurd h_ (by decide)
         rw [if_neg c110] at H; have c110b0 : (t344 == 18) = false := beq_eq_false_iff_ne.mpr c110; have c110b1 : (t344 != 18) = true := bne_iff_ne.mpr c110; have HC120 := Aside0.mk H; clear H
         go_upto_if 142 with (fail)
         go_cut [142] (fun v142 wc => ∃ (kq : Nat) (x142_119 : Bool), v142 = .bool x142_119 ∧ Aside0 (spec_l01Src_point.j4 kq t344 x142_119 s0_0 t345 t346 t347 = some (r1, r2, r3, r4)) ∧ Aside0 (kq ≤ kj90) ∧ Aside0 (IsS134 w0 wc g s0_0 t345 t346 t347) ∧ Aside0 (KeepBut w wc g none) ∧ Aside0 (Below w0.heap.size w0 wc))
         case first =>
          have H := HC120.out; clear HC120
          by_cases c121 : t344 = 19
          ·exfalso
           have h_ := HV.out; rw [c121] at h_
           exact absurd h_ (by decide)
          rw [if_neg c121] at H; have c121b0 : (t344 == 19) = false := beq_eq_false_iff_ne.mpr c121; have c121b1 : (t344 != 19) = true := bne_iff_ne.mpr c121
          (first | rw [c121b0] | (simp only [i64_w, i32_w]; rw [c121b0]) | skip)
          have H' := Aside0.mk H; clear H
          go_wp2
          go_meet
          case rel => exact ⟨_, ((t344 == 20)), (by first | rfl | (simp; done) | (simp [*]; done)), H', ⟨by have := HJ2.out; have := HJ44.out; have := HJ56.out; have := HJ90.out; first | omega | exact Nat.le_refl _⟩, ⟨isA⟩, ⟨keepA⟩, ⟨belowI⟩⟩
         case rest =>
          clear HC120
          try clear c1; try clear c2; try clear p2; try clear c3; try clear p3; try clear q3; try clear hx3; try clear c4; try clear p4; try clear q4; try clear hx4; try clear c5; try clear c5b0; try clear c5b1; try clear c6; try clear c6b0; try clear c6b1; try clear p6; try clear c7; try clear c8; try clear c9; try clear c10; try clear c10b0; try clear c10b1; try clear c11; try clear c12; try clear c13; try clear c13b0; try clear c13b1; try clear c15; try clear c15b0; try clear c16; try clear c16b0; try clear c17; try clear c21; try clear c21b0; try clear c21b1; try clear c27; try clear c27b0; try clear c28; try clear c28b0; try clear p36; try clear q36; try clear hx36; try clear c37; try clear c37b0; try clear c37b1; try clear p38; try clear q38; try clear hx38; try clear c39; try clear c39b0; try clear p39; try clear q39; try clear hx39; try clear c40; try clear c40b0; try clear p43; try clear q43; try clear hx43; try clear p45; try clear q45; try clear hx45; try clear c46; try clear c46b0; try clear c46b1; try clear c47; try clear p47; try clear q47; try clear hx47; try clear p49; try clear q49; try clear hx49; try clear c52; try clear c52b0; try clear c52b1; try clear c58; try clear c58b0; try clear c58b1; try clear c59; try clear c62; try clear c62b0; try clear c62b1; try clear p64; try clear c66; try clear c66b0; try clear c67; try clear c67b0; try clear c74; try clear c74b0; try clear c74b1; try clear c79; try clear c79b0; try clear c80; try clear c80b0; try clear c82; try clear c88; try clear c88b0; try clear c88b1; try clear c92; try clear c92b0; try clear c92b1; try clear c93; try clear c96; try clear c96b0; try clear c96b1; try clear c101; try clear c101b0; try clear c102; try clear c102b0; try clear c110; try clear c110b0; try clear c110b1; try clear c113; try clear c113b0; try clear c114; try clear c114b0; try clear c121; try clear c121b0; try clear c121b1; try clear hx363_0; try clear hx387_0; try clear hx395_0; try clear hx431_0; try clear hx451_0; try clear hx479_0; try clear hx491_0; try clear p2; try clear p3; try clear p36; try clear p363; try clear p38; try clear p387; try clear p39; try clear p395; try clear p4; try clear p43; try clear p431; try clear p45; try clear p451; try clear p479; try clear p491; try clear p6; try clear p64; try clear q3; try clear q36; try clear q363; try clear q38; try clear q387; try clear q39; try clear q395; try clear q4; try clear q43; try clear q431; try clear q45; try clear q451; try clear q479; try clear q491
          obtain ⟨kq, x142_119, rfl, HA, HJ119, HI0, HK, HB⟩ := hcut
          cases kq with
          | zero => exact absurd HA.out (by simp [spec_l01Src_point.j4])
          | succ kj119 =>
           have H := HA.out; clear HA; simp only [spec_l01Src_point.j4] at H
           by_cases c122 : x142_119 = true
           ·subst c122
            have H1 : ((spec_l01Src_n.f s0_0 t345 t346 t347 3).bind fun bt492 => ((spec_l01Src_n.f s0_0 bt492.2.1 bt492.2.2.1 bt492.2.2.2 416).bind fun bt496 => (some (wrap64 ((wrap64 (8192 + (wrap64 (512 * bt492.1)))) + bt496.1), bt496.2.1, bt496.2.2.1, bt496.2.2.2)))) = some (r1, r2, r3, r4) := by rw [if_pos rfl] at H; exact H
            clear H; have H := H1; clear H1; replace H := Option.bind_eq_some_iff.mp H; obtain ⟨⟨t492, t493, t494, t495⟩, A1230, H⟩ := H
            try dsimp only at H
            have A123 := Aside0.mk A1230; clear A1230; replace H := Option.bind_eq_some_iff.mp H; obtain ⟨⟨t496, t497, t498, t499⟩, A1240, H⟩ := H
            try dsimp only at H
            have A124 := Aside0.mk A1240; clear A1240; simp only [Option.some.injEq, Prod.mk.injEq] at H; obtain ⟨rfl, rfl, rfl, rfl⟩ := H
            go_wp2_with (first | ((with_reducible refine gate_callee (f := 82) rfl ?_); refine goesL_ (some 146) rfl rfl Tryd.func82 (by kernel_rfl) rfl #[.pointer (some ⟨g, 0, none⟩), .int .i64 3] rfl (by (try simp only [List.map_toArray, List.map_cons, List.map_nil]); first | done | rfl) ?_; refine (spec_l01Src_n.callsA g s0_0 t345 t346 t347 3 t492 t493 t494 t495 w0 _ _ A123.out).mono ?_; rintro e w125 ⟨rfl, hi, hb, hk⟩; refine ⟨_, rfl, ?_⟩; replace HI0 := hi; replace HB := hb; replace HK := hk; clear hi hb hk) | ((with_reducible refine gate_callee (f := 82) rfl ?_); refine goesL_ (some 150) rfl rfl Tryd.func82 (by kernel_rfl) rfl #[.pointer (some ⟨g, 0, none⟩), .int .i64 416] rfl (by (try simp only [List.map_toArray, List.map_cons, List.map_nil]); first | done | rfl) ?_; refine (spec_l01Src_n.callsA g s0_0 t493 t494 t495 416 t496 t497 t498 t499 w0 _ _ A124.out).mono ?_; rintro e w126 ⟨rfl, hi, hb, hk⟩; refine ⟨_, rfl, ?_⟩; replace HI0 := hi; replace HB := hb; replace HK := hk; clear hi hb hk))
            go_ret
            exact ⟨by first | rfl | (simp [errW_none, errW_some] <;> rfl) | (simp [*, errW_none, errW_some] <;> rfl), isA, belowI, keepA⟩
           replace c122 := Bool.eq_false_iff.mpr c122; subst c122
           have H1 : (if t344 = 21 then ((spec_l01Src_n.f s0_0 t345 t346 t347 26).bind fun bt500 => ((spec_l01Src_n.f s0_0 bt500.2.1 bt500.2.2.1 bt500.2.2.2 26).bind fun bt504 => ((spec_l01Src_n.f s0_0 bt504.2.1 bt504.2.2.1 bt504.2.2.2 4).bind fun bt508 => ((some (([wrap64 (9728 + bt500.1), wrap64 (9984 + bt504.1), wrap64 (10032 + bt508.1)] : List Int) : List Int)).bind fun y512 => ((spec_l01Src_n.f s0_0 bt508.2.1 bt508.2.2.1 bt508.2.2.2 3).bind fun bt515 => (if 0 ≤ bt515.1 then (if bt515.1 < (y512.length : Int) then (some (rd y512 bt515.1, bt515.2.1, bt515.2.2.1, bt515.2.2.2)) else (none)) else (none))))))) else (if t344 = 22 then ((spec_l01Src_n.f s0_0 t345 t346 t347 11172).bind fun bt520 => ((spec_l01Src_n.f s0_0 bt520.2.1 bt520.2.2.1 bt520.2.2.2 2048).bind fun bt524 => ((some (([wrap64 (12288 + bt520.1), wrap64 (24576 + bt524.1)] : List Int) : List Int)).bind fun y528 => ((spec_l01Src_n.f s0_0 bt524.2.1 bt524.2.2.1 bt524.2.2.2 2).bind fun bt531 => (if 0 ≤ bt531.1 then (if bt531.1 < (y528.length : Int) then (some (rd y528 bt531.1, bt531.2.1, bt531.2.2.1, bt531.2.2.2)) else (none)) else (none)))))) else ((spec_l01Src_n.f s0_0 t345 t346 t347 12288).bind fun bt536 => ((spec_l01Src_n.f s0_0 bt536.2.1 bt536.2.2.1 bt536.2.2.2 4096).bind fun bt540 => ((spec_l01Src_n.f s0_0 bt540.2.1 bt540.2.2.1 bt540.2.2.2 32768).bind fun bt544 => ((some (([65533, wrap64 (20480 + bt536.1), wrap64 (65536 + bt540.1), 1114111, 65535, bt544.1] : List Int) : List Int)).bind fun y548 => ((spec_l01Src_n.f s0_0 bt544.2.1 bt544.2.2.1 bt544.2.2.2 6).bind fun bt551 => (if 0 ≤ bt551.1 then (if bt551.1 < (y548.length : Int) then (some (rd y548 bt551.1, bt551.2.1, bt551.2.2.1, bt551.2.2.2)) else (none)) else (none))))))))) = some (r1, r2, r3, r4) := by rw [if_neg (show ¬ (false = true) by decide)] at H; exact H
           clear H; have H := H1; clear H1
           by_cases c127 : t344 = 21
           ·exfalso
            have h_ := HV.out; rw [c127] at h_
            exact absurd h_ (by decide)
           rw [if_neg c127] at H; have c127b0 : (t344 == 21) = false := beq_eq_false_iff_ne.mpr c127; have c127b1 : (t344 != 21) = true := bne_iff_ne.mpr c127
           by_cases c141 : t344 = 22
           ·exfalso
            have h_ := HV.out; rw [c141] at h_
            exact absurd h_ (by decide)
           rw [if_neg c141] at H; have c141b0 : (t344 == 22) = false := beq_eq_false_iff_ne.mpr c141; have c141b1 : (t344 != 22) = true := bne_iff_ne.mpr c141; replace H := Option.bind_eq_some_iff.mp H; obtain ⟨⟨t536, t537, t538, t539⟩, A1530, H⟩ := H
           try dsimp only at H
           have A153 := Aside0.mk A1530; clear A1530; replace H := Option.bind_eq_some_iff.mp H; obtain ⟨⟨t540, t541, t542, t543⟩, A1540, H⟩ := H
           try dsimp only at H
           have A154 := Aside0.mk A1540; clear A1540; replace H := Option.bind_eq_some_iff.mp H; obtain ⟨⟨t544, t545, t546, t547⟩, A1550, H⟩ := H
           try dsimp only at H
           have A155 := Aside0.mk A1550; clear A1550; obtain ⟨y548, hy548⟩ : ∃ y_ : List Int, y_ = (([65533, wrap64 (20480 + t536), wrap64 (65536 + t540), 1114111, 65535, t544] : List Int)) := ⟨_, rfl⟩
           replace H : ((spec_l01Src_n.f s0_0 t545 t546 t547 6).bind fun bt551 => (if 0 ≤ bt551.1 then (if bt551.1 < (y548.length : Int) then (some (rd y548 bt551.1, bt551.2.1, bt551.2.2.1, bt551.2.2.2)) else (none)) else (none))) = some (r1, r2, r3, r4) := by first | (rw [hy548]; with_reducible exact H) | (have H2_ := (Option.bind_some _ _).symm.trans H; rw [hy548]; with_reducible exact H2_) | (have H2_ := (Option.bind_some _ _).symm.trans H; with_reducible exact H2_) | with_reducible exact H | (rw [hy548]; exact H) | exact H
           have Ny548 := Aside0.mk hy548; clear hy548; replace H := Option.bind_eq_some_iff.mp H; obtain ⟨⟨t551, t552, t553, t554⟩, A1560, H⟩ := H
           try dsimp only at H
           have A156 := Aside0.mk A1560; clear A1560
           by_cases c157 : 0 ≤ t551
           ·rw [if_pos c157] at H
            have c157b0 : decide (0 ≤ t551) = true := decide_eq_true c157; clear c157
            by_cases c158 : t551 < (y548.length : Int)
            ·rw [if_pos c158] at H
             have c158b0 : decide (t551 < (y548.length : Int)) = true := decide_eq_true c158; clear c158; simp only [Option.some.injEq, Prod.mk.injEq] at H; obtain ⟨rfl, rfl, rfl, rfl⟩ := H
             go_wp2_with (first | ((with_reducible refine gate_callee (f := 82) rfl ?_); refine goesL_ (some 182) rfl rfl Tryd.func82 (by kernel_rfl) rfl #[.pointer (some ⟨g, 0, none⟩), .int .i64 12288] rfl (by (try simp only [List.map_toArray, List.map_cons, List.map_nil]); first | done | rfl) ?_; refine (spec_l01Src_n.callsA g s0_0 t345 t346 t347 12288 t536 t537 t538 t539 w0 _ _ A153.out).mono ?_; rintro e w159 ⟨rfl, hi, hb, hk⟩; refine ⟨_, rfl, ?_⟩; replace HI0 := hi; replace HB := hb; replace HK := hk; clear hi hb hk) | ((with_reducible refine gate_callee (f := 82) rfl ?_); refine goesL_ (some 185) rfl rfl Tryd.func82 (by kernel_rfl) rfl #[.pointer (some ⟨g, 0, none⟩), .int .i64 4096] rfl (by (try simp only [List.map_toArray, List.map_cons, List.map_nil]); first | done | rfl) ?_; refine (spec_l01Src_n.callsA g s0_0 t537 t538 t539 4096 t540 t541 t542 t543 w0 _ _ A154.out).mono ?_; rintro e w160 ⟨rfl, hi, hb, hk⟩; refine ⟨_, rfl, ?_⟩; replace HI0 := hi; replace HB := hb; replace HK := hk; clear hi hb hk) | ((with_reducible refine gate_callee (f := 82) rfl ?_); refine goesL_ (some 188) rfl rfl Tryd.func82 (by kernel_rfl) rfl #[.pointer (some ⟨g, 0, none⟩), .int .i64 32768] rfl (by (try simp only [List.map_toArray, List.map_cons, List.map_nil]); first | done | rfl) ?_; refine (spec_l01Src_n.callsA g s0_0 t541 t542 t543 32768 t544 t545 t546 t547 w0 _ _ A155.out).mono ?_; rintro e w161 ⟨rfl, hi, hb, hk⟩; refine ⟨_, rfl, ?_⟩; replace HI0 := hi; replace HB := hb; replace HK := hk; clear hi hb hk) | ((with_reducible refine gate_dst (N := 189) rfl ?_); refine Kd.R_lit (Kd.int .i64) _ 2 ?hg (N := 189) ?hd (xs := ([65533, wrap64 (20480 + t536), wrap64 (65536 + t540), 1114111, 65535, t544] : List Int)) (inner := [.int .i64 65533, .int .i64 (wrap64 (20480 + t536)), .int .i64 (wrap64 (65536 + t540)), .int .i64 1114111, .int .i64 65535, .int .i64 t544]) (ok := fun _ => True) (okp := fun _ => True) ?hr ?hp (fun _ hk => hk) trivial (Below.refl _ _) (Nat.le_refl _) (by simp) ?_; (case hd => rfl); (case hg => rfl); (case hr => first | (go_simp; done) | (go_simp; rfl)); (case hp => exact (Reps.one (show Kd.M (Kd.int .i64) _ _ _ 65533 [.int .i64 65533] from rfl) (Reps.one (show Kd.M (Kd.int .i64) _ _ _ (wrap64 (20480 + t536)) [.int .i64 (wrap64 (20480 + t536))] from rfl) (Reps.one (show Kd.M (Kd.int .i64) _ _ _ (wrap64 (65536 + t540)) [.int .i64 (wrap64 (65536 + t540))] from rfl) (Reps.one (show Kd.M (Kd.int .i64) _ _ _ 1114111 [.int .i64 1114111] from rfl) (Reps.one (show Kd.M (Kd.int .i64) _ _ _ 65535 [.int .i64 65535] from rfl) (Reps.one (show Kd.M (Kd.int .i64) _ _ _ t544 [.int .i64 t544] from rfl) (Reps.none _ _)))))))); intro v549 w162 ho163 hb hg_ hnew_; clear hg_ hnew_; (first | rw [← Ny548.out] at ho163 | (simp only [Int.reduceToNat] at ho163; rw [← Ny548.out] at ho163)); have n0_ := Aside0.mk (Kd.R_lower ho163 (keep_size (w := w) (g := g) (row := none) (keepA))); have n1_ := Aside0.mk (IsS134.below (isA) hb); have n2_ := Aside0.mk (KeepBut.trans (keepA) (KeepBut.of_below hb g none) (.inl rfl)); have n3_ := Aside0.mk (below_step (belowI) hb); clear HI0; clear HK; clear HB; have HO550 := n0_; have HI0 := n1_; have HK := n2_; have HB := n3_; clear n0_ n1_ n2_ n3_; clear hb ho163) | ((with_reducible refine gate_callee (f := 82) rfl ?_); refine goesL_ (some 191) rfl rfl Tryd.func82 (by kernel_rfl) rfl #[.pointer (some ⟨g, 0, none⟩), .int .i64 6] rfl (by (try simp only [List.map_toArray, List.map_cons, List.map_nil]); first | done | rfl) ?_; (with_reducible refine (spec_l01Src_n.calls g s0_0 t545 t546 t547 6 t551 t552 t553 t554 w0 _ ?side1 ?side2 A156.out).mono ?_); (case side1 => exact isA); (case side2 => exact belowI); rintro e w164 ⟨rfl, hi, hb, hk⟩; refine ⟨_, rfl, ?_⟩; have n0_ := Aside0.mk (Kd.R_mono (Kd.R_keep (IsS134.apart (show IsS134 w0 _ g s0_0 t545 t546 t547 from isA) (by (with_reducible repeat (first | apply Kd.R_alloc | apply Kd.R_drewN | apply Kd.R_drew)); exact HO550.out) (by decide)) hk (fun _ h => h.2)) (fun _ h => h.1)); have n1_ := Aside0.mk (KeepBut.trans (keepA) hk (.inl rfl)); have n2_ := Aside0.mk (hb); have n3_ := Aside0.mk (hi); clear HO550; clear HK; clear HB; clear HI0; have HO550 := n0_; have HK := n1_; have HB := n2_; have HI0 := n3_; clear n0_ n1_ n2_ n3_; (try clear hb); (try clear hb2); (try clear hk); (try clear hi); obtain ⟨Ao165, co165, eo165⟩ := Kd.R_slice HO550.out; subst eo165; have p555 : 0 ≤ (t551 : Int) := of_decide_eq_true (by first | (with_reducible assumption) | assumption); have q555 : t551 < (y548.length : Int) := of_decide_eq_true (by first | (with_reducible assumption) | assumption); obtain ⟨ad555, e555, hx555_0⟩ := Kd.at_int (Kd.R_reads' HO550.out).2.2 t551 p555 q555; cases e555; replace p555 := eq_true p555; replace q555 := eq_true q555))
             go_ret
             exact ⟨by first | rfl | (simp [errW_none, errW_some] <;> rfl) | (simp [*, errW_none, errW_some] <;> rfl), isA, belowI, keepA⟩
            rw [if_neg c158] at H
            exact absurd H (by simp)
           rw [if_neg c157] at H
           exact absurd H (by simp)

end Go.Proofs.YtiabgmddnddeiaaDoor.QFnJoinNormal
