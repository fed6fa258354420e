/- The law FnStable: at every input the call answers true (this text: contracts on its way, by a program of this session's; no condition of ours). -/
import Derived.Test.YtiabgmddnddeiaaDoorQFnStablex0
import Derived.Test.YtiabgmddnddeiaaDoorQFnStablex1
namespace Go.Proofs.YtiabgmddnddeiaaDoor.QFnStable
open Go.RowKit Go.Proofs.YtiabgmddnddeiaaDoorW.PrintWords Go.Proofs.YtiabgmddnddeiaaDoorW.PrintLast Go.Proofs.YtiabgmddnddeiaaDoorW.PrintMore
attribute [local go_sem] max2_int min2_int max_two min_two max_three min_three max_four min_four   -- for this text's walks alone
set_option linter.unusedVariables false
set_option linter.unusedSimpArgs false
/-! ### spec_l01Src_point: function 179 -/
mutual
def spec_l01Src_point.j0 : Nat → Int → Bool → List Int → Int → Int → Int → Option (Int × Int × Int × Int)
 | 0, _, _, _, _, _, _ => none
 | k + 1, x4, x5, x1000, x1001, x1002, x1003 => if x5 = true then ((spec_l01Src_n.f x1000 x1001 x1002 x1003 26).bind fun bt142 => (some (wrap64 (97 + bt142.1), bt142.2.1, bt142.2.2.1, bt142.2.2.2))) else (if x4 = 3 then ((spec_l01Src_n.f x1000 x1001 x1002 x1003 26).bind fun bt146 => (some (wrap64 (65 + bt146.1), bt146.2.1, bt146.2.2.1, bt146.2.2.2))) else (if x4 = 4 then ((some (([32, 32, 160, 10, 9, 13, 8064, 173] : List Int) : List Int)).bind fun y150 => ((spec_l01Src_n.f x1000 x1001 x1002 x1003 8).bind fun bt153 => (if 0 ≤ bt153.1 then (if bt153.1 < (y150.length : Int) then (some (rd y150 bt153.1, bt153.2.1, bt153.2.2.1, bt153.2.2.2)) else (none)) else (none)))) else (if x4 = 5 then ((spec_l01Src_n.f x1000 x1001 x1002 x1003 10).bind fun bt158 => ((spec_l01Src_n.f x1000 bt158.2.1 bt158.2.2.1 bt158.2.2.2 10).bind fun bt162 => ((spec_l01Src_n.f x1000 bt162.2.1 bt162.2.2.1 bt162.2.2.2 10).bind fun bt166 => ((spec_l01Src_n.f x1000 bt166.2.1 bt166.2.2.1 bt166.2.2.2 10).bind fun bt170 => ((some (([wrap64 (48 + bt158.1), wrap64 (592 + bt162.1), wrap64 (1360 + bt166.1), wrap64 (10016 + bt170.1)] : List Int) : List Int)).bind fun y174 => ((spec_l01Src_n.f x1000 bt170.2.1 bt170.2.2.1 bt170.2.2.2 4).bind fun bt177 => (if 0 ≤ bt177.1 then (if bt177.1 < (y174.length : Int) then (some (rd y174 bt177.1, bt177.2.1, bt177.2.2.1, bt177.2.2.2)) else (none)) else (none)))))))) else (if x4 = 6 then ((some (([46, 44, 33, 63, 39, 40, 41, 91, 93, 45, 58, 95] : List Int) : List Int)).bind fun y182 => ((spec_l01Src_n.f x1000 x1001 x1002 x1003 12).bind fun bt185 => (if 0 ≤ bt185.1 then (if bt185.1 < (y182.length : Int) then (some (rd y182 bt185.1, bt185.2.1, bt185.2.2.1, bt185.2.2.2)) else (none)) else (none)))) else (if x4 = 7 then (spec_l01Src_point.j1 k x4 (x4 == 7) x1000 x1001 x1002 x1003) else (spec_l01Src_point.j1 k x4 (x4 == 8) x1000 x1001 x1002 x1003))))))
def spec_l01Src_point.j1 : Nat → Int → Bool → List Int → Int → Int → Int → Option (Int × Int × Int × Int)
 | 0, _, _, _, _, _, _ => none
 | k + 1, x4, x50, x1000, x1001, x1002, x1003 => if x50 = true then ((spec_l01Src_n.f x1000 x1001 x1002 x1003 3).bind fun bt190 => ((spec_l01Src_n.f x1000 bt190.2.1 bt190.2.2.1 bt190.2.2.2 76).bind fun bt194 => (some (wrap64 ((wrap64 (512 + (wrap64 (256 * bt190.1)))) + bt194.1), bt194.2.1, bt194.2.2.1, bt194.2.2.2)))) else (if x4 = 9 then ((spec_l01Src_n.f x1000 x1001 x1002 x1003 3).bind fun bt198 => ((spec_l01Src_n.f x1000 bt198.2.1 bt198.2.2.1 bt198.2.2.2 2).bind fun bt202 => (some (wrap64 ((wrap64 ((wrap64 (512 + (wrap64 (256 * bt198.1)))) + 96)) + bt202.1), bt202.2.1, bt202.2.2.1, bt202.2.2.2)))) else (if x4 = 10 then (spec_l01Src_point.j2 k x4 (x4 == 10) x1000 x1001 x1002 x1003) else (spec_l01Src_point.j2 k x4 (x4 == 11) x1000 x1001 x1002 x1003)))
def spec_l01Src_point.j2 : Nat → Int → Bool → List Int → Int → Int → Int → Option (Int × Int × Int × Int)
 | 0, _, _, _, _, _, _ => none
 | k + 1, x4, x70, x1000, x1001, x1002, x1003 => if x70 = true then ((spec_l01Src_n.f x1000 x1001 x1002 x1003 32).bind fun bt206 => (some (wrap64 (1280 + bt206.1), bt206.2.1, bt206.2.2.1, bt206.2.2.2))) else (if x4 = 12 then ((spec_l01Src_n.f x1000 x1001 x1002 x1003 32).bind fun bt210 => ((spec_l01Src_n.f x1000 bt210.2.1 bt210.2.2.1 bt210.2.2.2 12).bind fun bt214 => ((some (([wrap64 (1536 + bt210.1), wrap64 (1568 + bt214.1), 1584, 1585] : List Int) : List Int)).bind fun y218 => ((spec_l01Src_n.f x1000 bt214.2.1 bt214.2.2.1 bt214.2.2.2 4).bind fun bt221 => (if 0 ≤ bt221.1 then (if bt221.1 < (y218.length : Int) then (some (rd y218 bt221.1, bt221.2.1, bt221.2.2.1, bt221.2.2.2)) else (none)) else (none)))))) else (if x4 = 13 then ((spec_l01Src_n.f x1000 x1001 x1002 x1003 19).bind fun bt226 => ((spec_l01Src_n.f x1000 bt226.2.1 bt226.2.2.1 bt226.2.2.2 21).bind fun bt230 => ((spec_l01Src_n.f x1000 bt230.2.1 bt230.2.2.1 bt230.2.2.2 27).bind fun bt234 => ((some (([wrap64 (1792 + bt226.1), wrap64 (1824 + bt230.1), wrap64 (1857 + bt234.1)] : List Int) : List Int)).bind fun y238 => ((spec_l01Src_n.f x1000 bt234.2.1 bt234.2.2.1 bt234.2.2.2 3).bind fun bt241 => (if 0 ≤ bt241.1 then (if bt241.1 < (y238.length : Int) then (some (rd y238 bt241.1, bt241.2.1, bt241.2.2.1, bt241.2.2.2)) else (none)) else (none))))))) else (if x4 = 14 then ((spec_l01Src_n.f x1000 x1001 x1002 x1003 48).bind fun bt246 => (some (wrap64 (2048 + bt246.1), bt246.2.1, bt246.2.2.1, bt246.2.2.2))) else (if x4 = 15 then (spec_l01Src_point.j3 k x4 (x4 == 15) x1000 x1001 x1002 x1003) else (spec_l01Src_point.j3 k x4 (x4 == 16) x1000 x1001 x1002 x1003)))))
def spec_l01Src_point.j3 : Nat → Int → Bool → List Int → Int → Int → Int → Option (Int × Int × Int × Int)
 | 0, _, _, _, _, _, _ => none
 | k + 1, x4, x110, x1000, x1001, x1002, x1003 => if x110 = true then ((spec_l01Src_n.f x1000 x1001 x1002 x1003 64).bind fun bt250 => (some (wrap64 (4096 + bt250.1), bt250.2.1, bt250.2.2.1, bt250.2.2.2))) else (if x4 = 17 then ((spec_l01Src_n.f x1000 x1001 x1002 x1003 64).bind fun bt254 => ((spec_l01Src_n.f x1000 bt254.2.1 bt254.2.2.1 bt254.2.2.2 5).bind fun bt258 => ((spec_l01Src_n.f x1000 bt258.2.1 bt258.2.2.1 bt258.2.2.2 26).bind fun bt262 => ((some (([wrap64 (7680 + bt254.1), wrap64 (7744 + bt258.1), wrap64 (7760 + bt262.1)] : List Int) : List Int)).bind fun y266 => ((spec_l01Src_n.f x1000 bt262.2.1 bt262.2.2.1 bt262.2.2.2 3).bind fun bt269 => (if 0 ≤ bt269.1 then (if bt269.1 < (y266.length : Int) then (some (rd y266 bt269.1, bt269.2.1, bt269.2.2.1, bt269.2.2.2)) else (none)) else (none))))))) else (if x4 = 18 then ((spec_l01Src_n.f x1000 x1001 x1002 x1003 12).bind fun bt274 => ((some (([wrap64 (7936 + bt274.1), 7953, 7954] : List Int) : List Int)).bind fun y278 => ((spec_l01Src_n.f x1000 bt274.2.1 bt274.2.2.1 bt274.2.2.2 3).bind fun bt281 => (if 0 ≤ bt281.1 then (if bt281.1 < (y278.length : Int) then (some (rd y278 bt281.1, bt281.2.1, bt281.2.2.1, bt281.2.2.2)) else (none)) else (none))))) else (if x4 = 19 then (spec_l01Src_point.j4 k x4 (x4 == 19) x1000 x1001 x1002 x1003) else (spec_l01Src_point.j4 k x4 (x4 == 20) x1000 x1001 x1002 x1003))))
def spec_l01Src_point.j4 : Nat → Int → Bool → List Int → Int → Int → Int → Option (Int × Int × Int × Int)
 | 0, _, _, _, _, _, _ => none
 | k + 1, x4, x142, x1000, x1001, x1002, x1003 => if x142 = true then ((spec_l01Src_n.f x1000 x1001 x1002 x1003 3).bind fun bt286 => ((spec_l01Src_n.f x1000 bt286.2.1 bt286.2.2.1 bt286.2.2.2 416).bind fun bt290 => (some (wrap64 ((wrap64 (8192 + (wrap64 (512 * bt286.1)))) + bt290.1), bt290.2.1, bt290.2.2.1, bt290.2.2.2)))) else (if x4 = 21 then ((spec_l01Src_n.f x1000 x1001 x1002 x1003 26).bind fun bt294 => ((spec_l01Src_n.f x1000 bt294.2.1 bt294.2.2.1 bt294.2.2.2 26).bind fun bt298 => ((spec_l01Src_n.f x1000 bt298.2.1 bt298.2.2.1 bt298.2.2.2 4).bind fun bt302 => ((some (([wrap64 (9728 + bt294.1), wrap64 (9984 + bt298.1), wrap64 (10032 + bt302.1)] : List Int) : List Int)).bind fun y306 => ((spec_l01Src_n.f x1000 bt302.2.1 bt302.2.2.1 bt302.2.2.2 3).bind fun bt309 => (if 0 ≤ bt309.1 then (if bt309.1 < (y306.length : Int) then (some (rd y306 bt309.1, bt309.2.1, bt309.2.2.1, bt309.2.2.2)) else (none)) else (none))))))) else (if x4 = 22 then ((spec_l01Src_n.f x1000 x1001 x1002 x1003 11172).bind fun bt314 => ((spec_l01Src_n.f x1000 bt314.2.1 bt314.2.2.1 bt314.2.2.2 2048).bind fun bt318 => ((some (([wrap64 (12288 + bt314.1), wrap64 (24576 + bt318.1)] : List Int) : List Int)).bind fun y322 => ((spec_l01Src_n.f x1000 bt318.2.1 bt318.2.2.1 bt318.2.2.2 2).bind fun bt325 => (if 0 ≤ bt325.1 then (if bt325.1 < (y322.length : Int) then (some (rd y322 bt325.1, bt325.2.1, bt325.2.2.1, bt325.2.2.2)) else (none)) else (none)))))) else ((spec_l01Src_n.f x1000 x1001 x1002 x1003 12288).bind fun bt330 => ((spec_l01Src_n.f x1000 bt330.2.1 bt330.2.2.1 bt330.2.2.2 4096).bind fun bt334 => ((spec_l01Src_n.f x1000 bt334.2.1 bt334.2.2.1 bt334.2.2.2 32768).bind fun bt338 => ((some (([65533, wrap64 (20480 + bt330.1), wrap64 (65536 + bt334.1), 1114111, 65535, bt338.1] : List Int) : List Int)).bind fun y342 => ((spec_l01Src_n.f x1000 bt338.2.1 bt338.2.2.1 bt338.2.2.2 6).bind fun bt345 => (if 0 ≤ bt345.1 then (if bt345.1 < (y342.length : Int) then (some (rd y342 bt345.1, bt345.2.1, bt345.2.2.1, bt345.2.2.2)) else (none)) else (none)))))))))
end
def spec_l01Src_point.f (k : Nat) (s0_0 : List Int) (s0_1 : Int) (s0_2 : Int) (s0_3 : Int) : Option (Int × Int × Int × Int) := (spec_l01Src_n.f s0_0 s0_1 s0_2 s0_3 24).bind fun bt138 => (if bt138.1 = 0 then (spec_l01Src_point.j0 k bt138.1 (bt138.1 == 0) s0_0 bt138.2.1 bt138.2.2.1 bt138.2.2.2) else (if bt138.1 = 1 then (spec_l01Src_point.j0 k bt138.1 (bt138.1 == 1) s0_0 bt138.2.1 bt138.2.2.1 bt138.2.2.2) else (spec_l01Src_point.j0 k bt138.1 (bt138.1 == 2) s0_0 bt138.2.1 bt138.2.2.1 bt138.2.2.2)))
theorem spec_l01Src_point.mono_l : ∀ k, (∀ y0 y1 y2 y3 y4 y5, LeO (spec_l01Src_point.j0 k y0 y1 y2 y3 y4 y5) (spec_l01Src_point.j0 (k + 1) y0 y1 y2 y3 y4 y5)) ∧ (∀ y0 y1 y2 y3 y4 y5, LeO (spec_l01Src_point.j1 k y0 y1 y2 y3 y4 y5) (spec_l01Src_point.j1 (k + 1) y0 y1 y2 y3 y4 y5)) ∧ (∀ y0 y1 y2 y3 y4 y5, LeO (spec_l01Src_point.j2 k y0 y1 y2 y3 y4 y5) (spec_l01Src_point.j2 (k + 1) y0 y1 y2 y3 y4 y5)) ∧ (∀ y0 y1 y2 y3 y4 y5, LeO (spec_l01Src_point.j3 k y0 y1 y2 y3 y4 y5) (spec_l01Src_point.j3 (k + 1) y0 y1 y2 y3 y4 y5)) ∧ (∀ y0 y1 y2 y3 y4 y5, LeO (spec_l01Src_point.j4 k y0 y1 y2 y3 y4 y5) (spec_l01Src_point.j4 (k + 1) y0 y1 y2 y3 y4 y5))
 | 0 => ⟨fun _ _ _ _ _ _ r h => by simp [spec_l01Src_point.j0] at h, fun _ _ _ _ _ _ r h => by simp [spec_l01Src_point.j1] at h, fun _ _ _ _ _ _ r h => by simp [spec_l01Src_point.j2] at h, fun _ _ _ _ _ _ r h => by simp [spec_l01Src_point.j3] at h, fun _ _ _ _ _ _ r h => by simp [spec_l01Src_point.j4] at h⟩
 | k + 1 => by
  obtain ⟨ih0, ih1, ih2, ih3, ih4⟩ := spec_l01Src_point.mono_l k; refine ⟨?_, ?_, ?_, ?_, ?_⟩
  ·intro y0 y1 y2 y3 y4 y5
   unfold spec_l01Src_point.j0
   repeat' first
   | (with_reducible exact ih0 _ _ _ _ _ _)
   | (with_reducible exact ih1 _ _ _ _ _ _)
   | (with_reducible exact ih2 _ _ _ _ _ _)
   | (with_reducible exact ih3 _ _ _ _ _ _)
   | (with_reducible exact ih4 _ _ _ _ _ _)
   | (with_reducible exact LeO.refl _)
   | (with_reducible exact LeO.none _)
   | (with_reducible refine LeO.ite ?_ ?_)
   | (with_reducible refine LeO.bind ?_ (fun _ => ?_))
   | exact ih0 _ _ _ _ _ _
   | exact ih1 _ _ _ _ _ _
   | exact ih2 _ _ _ _ _ _
   | exact ih3 _ _ _ _ _ _
   | exact ih4 _ _ _ _ _ _
   | exact LeO.none _
   | refine LeO.ite ?_ ?_
   | refine LeO.bind ?_ (fun _ => ?_)
  ·intro y0 y1 y2 y3 y4 y5
   unfold spec_l01Src_point.j1
   repeat' first
   | (with_reducible exact ih0 _ _ _ _ _ _)
   | (with_reducible exact ih1 _ _ _ _ _ _)
   | (with_reducible exact ih2 _ _ _ _ _ _)
   | (with_reducible exact ih3 _ _ _ _ _ _)
   | (with_reducible exact ih4 _ _ _ _ _ _)
   | (with_reducible exact LeO.refl _)
   | (with_reducible exact LeO.none _)
   | (with_reducible refine LeO.ite ?_ ?_)
   | (with_reducible refine LeO.bind ?_ (fun _ => ?_))
   | exact ih0 _ _ _ _ _ _
   | exact ih1 _ _ _ _ _ _
   | exact ih2 _ _ _ _ _ _
   | exact ih3 _ _ _ _ _ _
   | exact ih4 _ _ _ _ _ _
   | exact LeO.none _
   | refine LeO.ite ?_ ?_
   | refine LeO.bind ?_ (fun _ => ?_)
  ·intro y0 y1 y2 y3 y4 y5
   unfold spec_l01Src_point.j2
   repeat' first
   | (with_reducible exact ih0 _ _ _ _ _ _)
   | (with_reducible exact ih1 _ _ _ _ _ _)
   | (with_reducible exact ih2 _ _ _ _ _ _)
   | (with_reducible exact ih3 _ _ _ _ _ _)
   | (with_reducible exact ih4 _ _ _ _ _ _)
   | (with_reducible exact LeO.refl _)
   | (with_reducible exact LeO.none _)
   | (with_reducible refine LeO.ite ?_ ?_)
   | (with_reducible refine LeO.bind ?_ (fun _ => ?_))
   | exact ih0 _ _ _ _ _ _
   | exact ih1 _ _ _ _ _ _
   | exact ih2 _ _ _ _ _ _
   | exact ih3 _ _ _ _ _ _
   | exact ih4 _ _ _ _ _ _
   | exact LeO.none _
   | refine LeO.ite ?_ ?_
   | refine LeO.bind ?_ (fun _ => ?_)
  ·intro y0 y1 y2 y3 y4 y5
   unfold spec_l01Src_point.j3
   repeat' first
   | (with_reducible exact ih0 _ _ _ _ _ _)
   | (with_reducible exact ih1 _ _ _ _ _ _)
   | (with_reducible exact ih2 _ _ _ _ _ _)
   | (with_reducible exact ih3 _ _ _ _ _ _)
   | (with_reducible exact ih4 _ _ _ _ _ _)
   | (with_reducible exact LeO.refl _)
   | (with_reducible exact LeO.none _)
   | (with_reducible refine LeO.ite ?_ ?_)
   | (with_reducible refine LeO.bind ?_ (fun _ => ?_))
   | exact ih0 _ _ _ _ _ _
   | exact ih1 _ _ _ _ _ _
   | exact ih2 _ _ _ _ _ _
   | exact ih3 _ _ _ _ _ _
   | exact ih4 _ _ _ _ _ _
   | exact LeO.none _
   | refine LeO.ite ?_ ?_
   | refine LeO.bind ?_ (fun _ => ?_)
  intro y0 y1 y2 y3 y4 y5
  unfold spec_l01Src_point.j4
  repeat' first
  | (with_reducible exact ih0 _ _ _ _ _ _)
  | (with_reducible exact ih1 _ _ _ _ _ _)
  | (with_reducible exact ih2 _ _ _ _ _ _)
  | (with_reducible exact ih3 _ _ _ _ _ _)
  | (with_reducible exact ih4 _ _ _ _ _ _)
  | (with_reducible exact LeO.refl _)
  | (with_reducible exact LeO.none _)
  | (with_reducible refine LeO.ite ?_ ?_)
  | (with_reducible refine LeO.bind ?_ (fun _ => ?_))
  | exact ih0 _ _ _ _ _ _
  | exact ih1 _ _ _ _ _ _
  | exact ih2 _ _ _ _ _ _
  | exact ih3 _ _ _ _ _ _
  | exact ih4 _ _ _ _ _ _
  | exact LeO.none _
  | refine LeO.ite ?_ ?_
  | refine LeO.bind ?_ (fun _ => ?_)
theorem spec_l01Src_point.mono : ∀ a0 a1 a2 a3 k, LeO (spec_l01Src_point.f k a0 a1 a2 a3) (spec_l01Src_point.f (k + 1) a0 a1 a2 a3) := by
 intro a0 a1 a2 a3 k
 obtain ⟨ih0, ih1, ih2, ih3, ih4⟩ := spec_l01Src_point.mono_l k
 unfold spec_l01Src_point.f
 repeat' first
   | (with_reducible exact ih0 _ _ _ _ _ _)
   | (with_reducible exact ih1 _ _ _ _ _ _)
   | (with_reducible exact ih2 _ _ _ _ _ _)
   | (with_reducible exact ih3 _ _ _ _ _ _)
   | (with_reducible exact ih4 _ _ _ _ _ _)
   | (with_reducible exact LeO.refl _)
   | (with_reducible exact LeO.none _)
   | (with_reducible refine LeO.ite ?_ ?_)
   | (with_reducible refine LeO.bind ?_ (fun _ => ?_))
   | exact ih0 _ _ _ _ _ _
   | exact ih1 _ _ _ _ _ _
   | exact ih2 _ _ _ _ _ _
   | exact ih3 _ _ _ _ _ _
   | exact ih4 _ _ _ _ _ _
   | exact LeO.none _
   | refine LeO.ite ?_ ?_
   | refine LeO.bind ?_ (fun _ => ?_)
set_option maxHeartbeats 8000000 in
set_option maxRecDepth 100000 in
theorem spec_l01Src_point.calls_0 (k : Nat) (g : Nat) (s0_0 : List Int) (s0_1 : Int) (s0_2 : Int) (s0_3 : Int) (r1 : Int) (r2 : Int) (r3 : Int) (r4 : Int) (w0 w : World) (hI : IsS134 w0 w g s0_0 s0_1 s0_2 s0_3) (hB : Below w0.heap.size w0 w) (h : spec_l01Src_point.f k s0_0 s0_1 s0_2 s0_3 = some (r1, r2, r3, r4)) (hv_ : ∀ x_ y_, spec_l01Src_n.f s0_0 s0_1 s0_2 s0_3 24 = some (x_, y_) → x_ < 7) :
  Calls Tryd.prog 179 #[.pointer (some ⟨g, 0, none⟩)] w fun e w' => e = .returned (.int .i64 r1) ∧ IsS134 w0 w' g s0_0 r2 r3 r4 ∧ Below w0.heap.size w0 w' ∧ KeepBut w w' g none := by
 have HI0 := Aside0.mk hI
 have HK := Aside0.mk (KeepBut.refl w g none)
 have HL := Aside0.mk hB.size
 clear hI
 have HW0 := Aside0.mk hB.size
 have HB := Aside0.mk hB
 clear hB
 have H : ((spec_l01Src_n.f s0_0 s0_1 s0_2 s0_3 24).bind fun bt138 => (if bt138.1 = 0 then (spec_l01Src_point.j0 k bt138.1 (bt138.1 == 0) s0_0 bt138.2.1 bt138.2.2.1 bt138.2.2.2) else (if bt138.1 = 1 then (spec_l01Src_point.j0 k bt138.1 (bt138.1 == 1) s0_0 bt138.2.1 bt138.2.2.1 bt138.2.2.2) else (spec_l01Src_point.j0 k bt138.1 (bt138.1 == 2) s0_0 bt138.2.1 bt138.2.2.1 bt138.2.2.2)))) = some (r1, r2, r3, r4) := h
 clear h
 replace H := Option.bind_eq_some_iff.mp H
 obtain ⟨⟨t138, t139, t140, t141⟩, A20, H⟩ := H
 have HV := Aside0.mk (hv_ _ _ A20)
 clear hv_
 try dsimp only at H
 have A2 := Aside0.mk A20
 clear A20
 have HC3 := Aside0.mk H
 clear H
 go_enter Tryd.func179, Tryd.ntmps179
 go_upto_if 5 with (first | ((with_reducible refine gate_callee (f := 82) rfl ?_); refine goesL_ (some 4) rfl rfl Tryd.func82 (by kernel_rfl) rfl #[.pointer (some ⟨g, 0, none⟩), .int .i64 24] rfl (by (try simp only [List.map_toArray, List.map_cons, List.map_nil]); first | done | rfl) ?_; refine (spec_l01Src_n.callsA g s0_0 s0_1 s0_2 s0_3 24 t138 t139 t140 t141 w0 _ _ A2.out).mono ?_; rintro e w4 ⟨rfl, hi, hb, hk⟩; refine ⟨_, rfl, ?_⟩; replace HI0 := hi; replace HB := hb; replace HK := hk; clear hi hb hk))
 (try simp only [Act.put, List.setIfInBounds_toArray, List.set_cons_zero, List.set_cons_succ])
 go_cut [5] (fun v5 wc => ∃ (kq : Nat) (x5_2 : Bool), v5 = .bool x5_2 ∧ Aside0 (spec_l01Src_point.j0 kq t138 x5_2 s0_0 t139 t140 t141 = some (r1, r2, r3, r4)) ∧ Aside0 (kq ≤ k) ∧ Aside0 (IsS134 w0 wc g s0_0 t139 t140 t141) ∧ Aside0 (KeepBut w wc g none) ∧ Aside0 (Below w0.heap.size w0 wc))
 case first =>
  have H := HC3.out; clear HC3
  by_cases c5 : t138 = 0
  ·rw [if_pos c5] at H
   have c5b0 : (t138 == 0) = true := beq_iff_eq.mpr c5; have c5b1 : (t138 != 0) = false := bne_eq_false_iff_eq.mpr c5; clear c5
   (first | rw [c5b0] | (simp only [i64_w, i32_w]; rw [c5b0]) | skip)
   have H' := Aside0.mk H; clear H
   go_wp2
   go_meet
   case rel => exact ⟨_, ((t138 == 0)), (by first | rfl | (simp; done) | (simp [*]; done)), H', ⟨by first | omega | exact Nat.le_refl _⟩, ⟨isA⟩, ⟨keepA⟩, ⟨belowI⟩⟩
  rw [if_neg c5] at H; have c5b0 : (t138 == 0) = false := beq_eq_false_iff_ne.mpr c5; have c5b1 : (t138 != 0) = true := bne_iff_ne.mpr c5
  (first | rw [c5b0] | (simp only [i64_w, i32_w]; rw [c5b0]) | skip)
  by_cases c6 : t138 = 1
  ·rw [if_pos c6] at H
   have c6b0 : (t138 == 1) = true := beq_iff_eq.mpr c6; have c6b1 : (t138 != 1) = false := bne_eq_false_iff_eq.mpr c6; clear c6; have H' := Aside0.mk H; clear H
   go_wp2
   go_meet
   case rel => exact ⟨_, ((t138 == 1)), (by first | rfl | (simp; done) | (simp [*]; done)), H', ⟨by first | omega | exact Nat.le_refl _⟩, ⟨isA⟩, ⟨keepA⟩, ⟨belowI⟩⟩
  rw [if_neg c6] at H; have c6b0 : (t138 == 1) = false := beq_eq_false_iff_ne.mpr c6; have c6b1 : (t138 != 1) = true := bne_iff_ne.mpr c6; have H' := Aside0.mk H; clear H
  go_wp2
  go_meet
  case rel => exact ⟨_, ((t138 == 2)), (by first | rfl | (simp; done) | (simp [*]; done)), H', ⟨by first | omega | exact Nat.le_refl _⟩, ⟨isA⟩, ⟨keepA⟩, ⟨belowI⟩⟩
 case rest =>
  clear HC3
  try clear c1; try clear p2; try clear c5; try clear c5b0; try clear c5b1; try clear c6; try clear c6b0; try clear c6b1
  obtain ⟨kq, x5_2, rfl, HA, HJ2, HI0, HK, HB⟩ := hcut
  cases kq with
  | zero => exact absurd HA.out (by simp [spec_l01Src_point.j0])
  | succ kj2 =>
   have H := HA.out; clear HA; simp only [spec_l01Src_point.j0] at H
   by_cases c7 : x5_2 = true
   ·subst c7
    have H1 : ((spec_l01Src_n.f s0_0 t139 t140 t141 26).bind fun bt142 => (some (wrap64 (97 + bt142.1), bt142.2.1, bt142.2.2.1, bt142.2.2.2))) = some (r1, r2, r3, r4) := by rw [if_pos rfl] at H; exact H
    clear H; have H := H1; clear H1; replace H := Option.bind_eq_some_iff.mp H; obtain ⟨⟨t142, t143, t144, t145⟩, A80, H⟩ := H
    try dsimp only at H
    have A8 := Aside0.mk A80; clear A80; simp only [Option.some.injEq, Prod.mk.injEq] at H; obtain ⟨rfl, rfl, rfl, rfl⟩ := H
    go_wp2_with (first | ((with_reducible refine gate_callee (f := 82) rfl ?_); refine goesL_ (some 10) rfl rfl Tryd.func82 (by kernel_rfl) rfl #[.pointer (some ⟨g, 0, none⟩), .int .i64 26] rfl (by (try simp only [List.map_toArray, List.map_cons, List.map_nil]); first | done | rfl) ?_; refine (spec_l01Src_n.callsA g s0_0 t139 t140 t141 26 t142 t143 t144 t145 w0 _ _ A8.out).mono ?_; rintro e w9 ⟨rfl, hi, hb, hk⟩; refine ⟨_, rfl, ?_⟩; replace HI0 := hi; replace HB := hb; replace HK := hk; clear hi hb hk))
    go_ret
    exact ⟨by first | rfl | (simp [errW_none, errW_some] <;> rfl) | (simp [*, errW_none, errW_some] <;> rfl), isA, belowI, keepA⟩
   replace c7 := Bool.eq_false_iff.mpr c7; subst c7
   have H1 : (if t138 = 3 then ((spec_l01Src_n.f s0_0 t139 t140 t141 26).bind fun bt146 => (some (wrap64 (65 + bt146.1), bt146.2.1, bt146.2.2.1, bt146.2.2.2))) else (if t138 = 4 then ((some (([32, 32, 160, 10, 9, 13, 8064, 173] : List Int) : List Int)).bind fun y150 => ((spec_l01Src_n.f s0_0 t139 t140 t141 8).bind fun bt153 => (if 0 ≤ bt153.1 then (if bt153.1 < (y150.length : Int) then (some (rd y150 bt153.1, bt153.2.1, bt153.2.2.1, bt153.2.2.2)) else (none)) else (none)))) else (if t138 = 5 then ((spec_l01Src_n.f s0_0 t139 t140 t141 10).bind fun bt158 => ((spec_l01Src_n.f s0_0 bt158.2.1 bt158.2.2.1 bt158.2.2.2 10).bind fun bt162 => ((spec_l01Src_n.f s0_0 bt162.2.1 bt162.2.2.1 bt162.2.2.2 10).bind fun bt166 => ((spec_l01Src_n.f s0_0 bt166.2.1 bt166.2.2.1 bt166.2.2.2 10).bind fun bt170 => ((some (([wrap64 (48 + bt158.1), wrap64 (592 + bt162.1), wrap64 (1360 + bt166.1), wrap64 (10016 + bt170.1)] : List Int) : List Int)).bind fun y174 => ((spec_l01Src_n.f s0_0 bt170.2.1 bt170.2.2.1 bt170.2.2.2 4).bind fun bt177 => (if 0 ≤ bt177.1 then (if bt177.1 < (y174.length : Int) then (some (rd y174 bt177.1, bt177.2.1, bt177.2.2.1, bt177.2.2.2)) else (none)) else (none)))))))) else (if t138 = 6 then ((some (([46, 44, 33, 63, 39, 40, 41, 91, 93, 45, 58, 95] : List Int) : List Int)).bind fun y182 => ((spec_l01Src_n.f s0_0 t139 t140 t141 12).bind fun bt185 => (if 0 ≤ bt185.1 then (if bt185.1 < (y182.length : Int) then (some (rd y182 bt185.1, bt185.2.1, bt185.2.2.1, bt185.2.2.2)) else (none)) else (none)))) else (if t138 = 7 then (spec_l01Src_point.j1 kj2 t138 (t138 == 7) s0_0 t139 t140 t141) else (spec_l01Src_point.j1 kj2 t138 (t138 == 8) s0_0 t139 t140 t141)))))) = some (r1, r2, r3, r4) := by rw [if_neg (show ¬ (false = true) by decide)] at H; exact H
   clear H; have H := H1; clear H1
   by_cases c10 : t138 = 3
   ·rw [if_pos c10] at H
    have c10b0 : (t138 == 3) = true := beq_iff_eq.mpr c10; have c10b1 : (t138 != 3) = false := bne_eq_false_iff_eq.mpr c10; clear c10; replace H := Option.bind_eq_some_iff.mp H; obtain ⟨⟨t146, t147, t148, t149⟩, A110, H⟩ := H
    try dsimp only at H
    have A11 := Aside0.mk A110; clear A110; simp only [Option.some.injEq, Prod.mk.injEq] at H; obtain ⟨rfl, rfl, rfl, rfl⟩ := H
    go_wp2_with (first | ((with_reducible refine gate_callee (f := 82) rfl ?_); refine goesL_ (some 15) rfl rfl Tryd.func82 (by kernel_rfl) rfl #[.pointer (some ⟨g, 0, none⟩), .int .i64 26] rfl (by (try simp only [List.map_toArray, List.map_cons, List.map_nil]); first | done | rfl) ?_; refine (spec_l01Src_n.callsA g s0_0 t139 t140 t141 26 t146 t147 t148 t149 w0 _ _ A11.out).mono ?_; rintro e w12 ⟨rfl, hi, hb, hk⟩; refine ⟨_, rfl, ?_⟩; replace HI0 := hi; replace HB := hb; replace HK := hk; clear hi hb hk))
    go_ret
    exact ⟨by first | rfl | (simp [errW_none, errW_some] <;> rfl) | (simp [*, errW_none, errW_some] <;> rfl), isA, belowI, keepA⟩
   rw [if_neg c10] at H; have c10b0 : (t138 == 3) = false := beq_eq_false_iff_ne.mpr c10; have c10b1 : (t138 != 3) = true := bne_iff_ne.mpr c10
   by_cases c13 : t138 = 4
   ·rw [if_pos c13] at H
    have c13b0 : (t138 == 4) = true := beq_iff_eq.mpr c13; have c13b1 : (t138 != 4) = false := bne_eq_false_iff_eq.mpr c13; clear c13; obtain ⟨y150, hy150⟩ : ∃ y_ : List Int, y_ = (([32, 32, 160, 10, 9, 13, 8064, 173] : List Int)) := ⟨_, rfl⟩
    replace H : ((spec_l01Src_n.f s0_0 t139 t140 t141 8).bind fun bt153 => (if 0 ≤ bt153.1 then (if bt153.1 < (y150.length : Int) then (some (rd y150 bt153.1, bt153.2.1, bt153.2.2.1, bt153.2.2.2)) else (none)) else (none))) = some (r1, r2, r3, r4) := by first | (rw [hy150]; with_reducible exact H) | (have H2_ := (Option.bind_some _ _).symm.trans H; rw [hy150]; with_reducible exact H2_) | (have H2_ := (Option.bind_some _ _).symm.trans H; with_reducible exact H2_) | with_reducible exact H | (rw [hy150]; exact H) | exact H
    have Ny150 := Aside0.mk hy150; clear hy150; replace H := Option.bind_eq_some_iff.mp H; obtain ⟨⟨t153, t154, t155, t156⟩, A140, H⟩ := H
    try dsimp only at H
    have A14 := Aside0.mk A140; clear A140
    by_cases c15 : 0 ≤ t153
    ·rw [if_pos c15] at H
     have c15b0 : decide (0 ≤ t153) = true := decide_eq_true c15; clear c15
     by_cases c16 : t153 < (y150.length : Int)
     ·rw [if_pos c16] at H
      have c16b0 : decide (t153 < (y150.length : Int)) = true := decide_eq_true c16; clear c16; simp only [Option.some.injEq, Prod.mk.injEq] at H; obtain ⟨rfl, rfl, rfl, rfl⟩ := H
      go_wp2_with (first | ((with_reducible refine gate_dst (N := 19) rfl ?_); refine Kd.R_lit (Kd.int .i64) _ 2 ?hg (N := 19) ?hd (xs := ([32, 32, 160, 10, 9, 13, 8064, 173] : List Int)) (inner := [.int .i64 32, .int .i64 32, .int .i64 160, .int .i64 10, .int .i64 9, .int .i64 13, .int .i64 8064, .int .i64 173]) (ok := fun _ => True) (okp := fun _ => True) ?hr ?hp (fun _ hk => hk) trivial (Below.refl _ _) (Nat.le_refl _) (by simp) ?_; (case hd => rfl); (case hg => rfl); (case hr => first | (go_simp; done) | (go_simp; rfl)); (case hp => exact (Reps.one (show Kd.M (Kd.int .i64) _ _ _ 32 [.int .i64 32] from rfl) (Reps.one (show Kd.M (Kd.int .i64) _ _ _ 32 [.int .i64 32] from rfl) (Reps.one (show Kd.M (Kd.int .i64) _ _ _ 160 [.int .i64 160] from rfl) (Reps.one (show Kd.M (Kd.int .i64) _ _ _ 10 [.int .i64 10] from rfl) (Reps.one (show Kd.M (Kd.int .i64) _ _ _ 9 [.int .i64 9] from rfl) (Reps.one (show Kd.M (Kd.int .i64) _ _ _ 13 [.int .i64 13] from rfl) (Reps.one (show Kd.M (Kd.int .i64) _ _ _ 8064 [.int .i64 8064] from rfl) (Reps.one (show Kd.M (Kd.int .i64) _ _ _ 173 [.int .i64 173] from rfl) (Reps.none _ _)))))))))); intro v151 w17 ho18 hb hg_ hnew_; clear hg_ hnew_; (first | rw [← Ny150.out] at ho18 | (simp only [Int.reduceToNat] at ho18; rw [← Ny150.out] at ho18)); have n0_ := Aside0.mk (Kd.R_lower ho18 (keep_size (w := w) (g := g) (row := none) (keepA))); have n1_ := Aside0.mk (IsS134.below (isA) hb); have n2_ := Aside0.mk (KeepBut.trans (keepA) (KeepBut.of_below hb g none) (.inl rfl)); have n3_ := Aside0.mk (below_step (belowI) hb); clear HI0; clear HK; clear HB; have HO152 := n0_; have HI0 := n1_; have HK := n2_; have HB := n3_; clear n0_ n1_ n2_ n3_; clear hb ho18) | ((with_reducible refine gate_callee (f := 82) rfl ?_); refine goesL_ (some 21) rfl rfl Tryd.func82 (by kernel_rfl) rfl #[.pointer (some ⟨g, 0, none⟩), .int .i64 8] rfl (by (try simp only [List.map_toArray, List.map_cons, List.map_nil]); first | done | rfl) ?_; (with_reducible refine (spec_l01Src_n.calls g s0_0 t139 t140 t141 8 t153 t154 t155 t156 w0 _ ?side1 ?side2 A14.out).mono ?_); (case side1 => exact isA); (case side2 => exact belowI); rintro e w19 ⟨rfl, hi, hb, hk⟩; refine ⟨_, rfl, ?_⟩; have n0_ := Aside0.mk (Kd.R_mono (Kd.R_keep (IsS134.apart (show IsS134 w0 _ g s0_0 t139 t140 t141 from isA) (by (with_reducible repeat (first | apply Kd.R_alloc | apply Kd.R_drewN | apply Kd.R_drew)); exact HO152.out) (by decide)) hk (fun _ h => h.2)) (fun _ h => h.1)); have n1_ := Aside0.mk (KeepBut.trans (keepA) hk (.inl rfl)); have n2_ := Aside0.mk (hb); have n3_ := Aside0.mk (hi); clear HO152; clear HK; clear HB; clear HI0; have HO152 := n0_; have HK := n1_; have HB := n2_; have HI0 := n3_; clear n0_ n1_ n2_ n3_; (try clear hb); (try clear hb2); (try clear hk); (try clear hi); obtain ⟨Ao20, co20, eo20⟩ := Kd.R_slice HO152.out; subst eo20; have p157 : 0 ≤ (t153 : Int) := of_decide_eq_true (by first | (with_reducible assumption) | assumption); have q157 : t153 < (y150.length : Int) := of_decide_eq_true (by first | (with_reducible assumption) | assumption); obtain ⟨ad157, e157, hx157_0⟩ := Kd.at_int (Kd.R_reads' HO152.out).2.2 t153 p157 q157; cases e157; replace p157 := eq_true p157; replace q157 := eq_true q157))
      go_ret
      exact ⟨by first | rfl | (simp [errW_none, errW_some] <;> rfl) | (simp [*, errW_none, errW_some] <;> rfl), isA, belowI, keepA⟩
     rw [if_neg c16] at H
     exact absurd H (by simp)
    rw [if_neg c15] at H
    exact absurd H (by simp)
   rw [if_neg c13] at H; have c13b0 : (t138 == 4) = false := beq_eq_false_iff_ne.mpr c13; have c13b1 : (t138 != 4) = true := bne_iff_ne.mpr c13
   by_cases c21 : t138 = 5
   ·rw [if_pos c21] at H
    have c21b0 : (t138 == 5) = true := beq_iff_eq.mpr c21; have c21b1 : (t138 != 5) = false := bne_eq_false_iff_eq.mpr c21; clear c21; replace H := Option.bind_eq_some_iff.mp H; obtain ⟨⟨t158, t159, t160, t161⟩, A220, H⟩ := H
    try dsimp only at H
    have A22 := Aside0.mk A220; clear A220; replace H := Option.bind_eq_some_iff.mp H; obtain ⟨⟨t162, t163, t164, t165⟩, A230, H⟩ := H
    try dsimp only at H
    have A23 := Aside0.mk A230; clear A230; replace H := Option.bind_eq_some_iff.mp H; obtain ⟨⟨t166, t167, t168, t169⟩, A240, H⟩ := H
    try dsimp only at H
    have A24 := Aside0.mk A240; clear A240; replace H := Option.bind_eq_some_iff.mp H; obtain ⟨⟨t170, t171, t172, t173⟩, A250, H⟩ := H
    try dsimp only at H
    have A25 := Aside0.mk A250; clear A250; obtain ⟨y174, hy174⟩ : ∃ y_ : List Int, y_ = (([wrap64 (48 + t158), wrap64 (592 + t162), wrap64 (1360 + t166), wrap64 (10016 + t170)] : List Int)) := ⟨_, rfl⟩
    replace H : ((spec_l01Src_n.f s0_0 t171 t172 t173 4).bind fun bt177 => (if 0 ≤ bt177.1 then (if bt177.1 < (y174.length : Int) then (some (rd y174 bt177.1, bt177.2.1, bt177.2.2.1, bt177.2.2.2)) else (none)) else (none))) = some (r1, r2, r3, r4) := by first | (rw [hy174]; with_reducible exact H) | (have H2_ := (Option.bind_some _ _).symm.trans H; rw [hy174]; with_reducible exact H2_) | (have H2_ := (Option.bind_some _ _).symm.trans H; with_reducible exact H2_) | with_reducible exact H | (rw [hy174]; exact H) | exact H
    have Ny174 := Aside0.mk hy174; clear hy174; replace H := Option.bind_eq_some_iff.mp H; obtain ⟨⟨t177, t178, t179, t180⟩, A260, H⟩ := H
    try dsimp only at H
    have A26 := Aside0.mk A260; clear A260
    by_cases c27 : 0 ≤ t177
    ·rw [if_pos c27] at H
     have c27b0 : decide (0 ≤ t177) = true := decide_eq_true c27; clear c27
     by_cases c28 : t177 < (y174.length : Int)
     ·rw [if_pos c28] at H
      have c28b0 : decide (t177 < (y174.length : Int)) = true := decide_eq_true c28; clear c28; simp only [Option.some.injEq, Prod.mk.injEq] at H; obtain ⟨rfl, rfl, rfl, rfl⟩ := H
      go_wp2_with (first | ((with_reducible refine gate_callee (f := 82) rfl ?_); refine goesL_ (some 27) rfl rfl Tryd.func82 (by kernel_rfl) rfl #[.pointer (some ⟨g, 0, none⟩), .int .i64 10] rfl (by (try simp only [List.map_toArray, List.map_cons, List.map_nil]); first | done | rfl) ?_; refine (spec_l01Src_n.callsA g s0_0 t139 t140 t141 10 t158 t159 t160 t161 w0 _ _ A22.out).mono ?_; rintro e w29 ⟨rfl, hi, hb, hk⟩; refine ⟨_, rfl, ?_⟩; replace HI0 := hi; replace HB := hb; replace HK := hk; clear hi hb hk) | ((with_reducible refine gate_callee (f := 82) rfl ?_); refine goesL_ (some 30) rfl rfl Tryd.func82 (by kernel_rfl) rfl #[.pointer (some ⟨g, 0, none⟩), .int .i64 10] rfl (by (try simp only [List.map_toArray, List.map_cons, List.map_nil]); first | done | rfl) ?_; refine (spec_l01Src_n.callsA g s0_0 t159 t160 t161 10 t162 t163 t164 t165 w0 _ _ A23.out).mono ?_; rintro e w30 ⟨rfl, hi, hb, hk⟩; refine ⟨_, rfl, ?_⟩; replace HI0 := hi; replace HB := hb; replace HK := hk; clear hi hb hk) | ((with_reducible refine gate_callee (f := 82) rfl ?_); refine goesL_ (some 33) rfl rfl Tryd.func82 (by kernel_rfl) rfl #[.pointer (some ⟨g, 0, none⟩), .int .i64 10] rfl (by (try simp only [List.map_toArray, List.map_cons, List.map_nil]); first | done | rfl) ?_; refine (spec_l01Src_n.callsA g s0_0 t163 t164 t165 10 t166 t167 t168 t169 w0 _ _ A24.out).mono ?_; rintro e w31 ⟨rfl, hi, hb, hk⟩; refine ⟨_, rfl, ?_⟩; replace HI0 := hi; replace HB := hb; replace HK := hk; clear hi hb hk) | ((with_reducible refine gate_callee (f := 82) rfl ?_); refine goesL_ (some 36) rfl rfl Tryd.func82 (by kernel_rfl) rfl #[.pointer (some ⟨g, 0, none⟩), .int .i64 10] rfl (by (try simp only [List.map_toArray, List.map_cons, List.map_nil]); first | done | rfl) ?_; refine (spec_l01Src_n.callsA g s0_0 t167 t168 t169 10 t170 t171 t172 t173 w0 _ _ A25.out).mono ?_; rintro e w32 ⟨rfl, hi, hb, hk⟩; refine ⟨_, rfl, ?_⟩; replace HI0 := hi; replace HB := hb; replace HK := hk; clear hi hb hk) | ((with_reducible refine gate_dst (N := 38) rfl ?_); refine Kd.R_lit (Kd.int .i64) _ 2 ?hg (N := 38) ?hd (xs := ([wrap64 (48 + t158), wrap64 (592 + t162), wrap64 (1360 + t166), wrap64 (10016 + t170)] : List Int)) (inner := [.int .i64 (wrap64 (48 + t158)), .int .i64 (wrap64 (592 + t162)), .int .i64 (wrap64 (1360 + t166)), .int .i64 (wrap64 (10016 + t170))]) (ok := fun _ => True) (okp := fun _ => True) ?hr ?hp (fun _ hk => hk) trivial (Below.refl _ _) (Nat.le_refl _) (by simp) ?_; (case hd => rfl); (case hg => rfl); (case hr => first | (go_simp; done) | (go_simp; rfl)); (case hp => exact (Reps.one (show Kd.M (Kd.int .i64) _ _ _ (wrap64 (48 + t158)) [.int .i64 (wrap64 (48 + t158))] from rfl) (Reps.one (show Kd.M (Kd.int .i64) _ _ _ (wrap64 (592 + t162)) [.int .i64 (wrap64 (592 + t162))] from rfl) (Reps.one (show Kd.M (Kd.int .i64) _ _ _ (wrap64 (1360 + t166)) [.int .i64 (wrap64 (1360 + t166))] from rfl) (Reps.one (show Kd.M (Kd.int .i64) _ _ _ (wrap64 (10016 + t170)) [.int .i64 (wrap64 (10016 + t170))] from rfl) (Reps.none _ _)))))); intro v175 w33 ho34 hb hg_ hnew_; clear hg_ hnew_; (first | rw [← Ny174.out] at ho34 | (simp only [Int.reduceToNat] at ho34; rw [← Ny174.out] at ho34)); have n0_ := Aside0.mk (Kd.R_lower ho34 (keep_size (w := w) (g := g) (row := none) (keepA))); have n1_ := Aside0.mk (IsS134.below (isA) hb); have n2_ := Aside0.mk (KeepBut.trans (keepA) (KeepBut.of_below hb g none) (.inl rfl)); have n3_ := Aside0.mk (below_step (belowI) hb); clear HI0; clear HK; clear HB; have HO176 := n0_; have HI0 := n1_; have HK := n2_; have HB := n3_; clear n0_ n1_ n2_ n3_; clear hb ho34) | ((with_reducible refine gate_callee (f := 82) rfl ?_); refine goesL_ (some 40) rfl rfl Tryd.func82 (by kernel_rfl) rfl #[.pointer (some ⟨g, 0, none⟩), .int .i64 4] rfl (by (try simp only [List.map_toArray, List.map_cons, List.map_nil]); first | done | rfl) ?_; (with_reducible refine (spec_l01Src_n.calls g s0_0 t171 t172 t173 4 t177 t178 t179 t180 w0 _ ?side1 ?side2 A26.out).mono ?_); (case side1 => exact isA); (case side2 => exact belowI); rintro e w35 ⟨rfl, hi, hb, hk⟩; refine ⟨_, rfl, ?_⟩; have n0_ := Aside0.mk (Kd.R_mono (Kd.R_keep (IsS134.apart (show IsS134 w0 _ g s0_0 t171 t172 t173 from isA) (by (with_reducible repeat (first | apply Kd.R_alloc | apply Kd.R_drewN | apply Kd.R_drew)); exact HO176.out) (by decide)) hk (fun _ h => h.2)) (fun _ h => h.1)); have n1_ := Aside0.mk (KeepBut.trans (keepA) hk (.inl rfl)); have n2_ := Aside0.mk (hb); have n3_ := Aside0.mk (hi); clear HO176; clear HK; clear HB; clear HI0; have HO176 := n0_; have HK := n1_; have HB := n2_; have HI0 := n3_; clear n0_ n1_ n2_ n3_; (try clear hb); (try clear hb2); (try clear hk); (try clear hi); obtain ⟨Ao36, co36, eo36⟩ := Kd.R_slice HO176.out; subst eo36; have p181 : 0 ≤ (t177 : Int) := of_decide_eq_true (by first | (with_reducible assumption) | assumption); have q181 : t177 < (y174.length : Int) := of_decide_eq_true (by first | (with_reducible assumption) | assumption); obtain ⟨ad181, e181, hx181_0⟩ := Kd.at_int (Kd.R_reads' HO176.out).2.2 t177 p181 q181; cases e181; replace p181 := eq_true p181; replace q181 := eq_true q181))
      go_ret
      exact ⟨by first | rfl | (simp [errW_none, errW_some] <;> rfl) | (simp [*, errW_none, errW_some] <;> rfl), isA, belowI, keepA⟩
     rw [if_neg c28] at H
     exact absurd H (by simp)
    rw [if_neg c27] at H
    exact absurd H (by simp)
   rw [if_neg c21] at H; have c21b0 : (t138 == 5) = false := beq_eq_false_iff_ne.mpr c21; have c21b1 : (t138 != 5) = true := bne_iff_ne.mpr c21
   by_cases c37 : t138 = 6
   ·rw [if_pos c37] at H
    have c37b0 : (t138 == 6) = true := beq_iff_eq.mpr c37; have c37b1 : (t138 != 6) = false := bne_eq_false_iff_eq.mpr c37; clear c37; obtain ⟨y182, hy182⟩ : ∃ y_ : List Int, y_ = (([46, 44, 33, 63, 39, 40, 41, 91, 93, 45, 58, 95] : List Int)) := ⟨_, rfl⟩
    replace H : ((spec_l01Src_n.f s0_0 t139 t140 t141 12).bind fun bt185 => (if 0 ≤ bt185.1 then (if bt185.1 < (y182.length : Int) then (some (rd y182 bt185.1, bt185.2.1, bt185.2.2.1, bt185.2.2.2)) else (none)) else (none))) = some (r1, r2, r3, r4) := by first | (rw [hy182]; with_reducible exact H) | (have H2_ := (Option.bind_some _ _).symm.trans H; rw [hy182]; with_reducible exact H2_) | (have H2_ := (Option.bind_some _ _).symm.trans H; with_reducible exact H2_) | with_reducible exact H | (rw [hy182]; exact H) | exact H
    have Ny182 := Aside0.mk hy182; clear hy182; replace H := Option.bind_eq_some_iff.mp H; obtain ⟨⟨t185, t186, t187, t188⟩, A380, H⟩ := H
    try dsimp only at H
    have A38 := Aside0.mk A380; clear A380
    by_cases c39 : 0 ≤ t185
    ·rw [if_pos c39] at H
     have c39b0 : decide (0 ≤ t185) = true := decide_eq_true c39; clear c39
     by_cases c40 : t185 < (y182.length : Int)
     ·rw [if_pos c40] at H
      have c40b0 : decide (t185 < (y182.length : Int)) = true := decide_eq_true c40; clear c40; simp only [Option.some.injEq, Prod.mk.injEq] at H; obtain ⟨rfl, rfl, rfl, rfl⟩ := H
      go_wp2_with (first | ((with_reducible refine gate_dst (N := 45) rfl ?_); refine Kd.R_lit (Kd.int .i64) _ 2 ?hg (N := 45) ?hd (xs := ([46, 44, 33, 63, 39, 40, 41, 91, 93, 45, 58, 95] : List Int)) (inner := [.int .i64 46, .int .i64 44, .int .i64 33, .int .i64 63, .int .i64 39, .int .i64 40, .int .i64 41, .int .i64 91, .int .i64 93, .int .i64 45, .int .i64 58, .int .i64 95]) (ok := fun _ => True) (okp := fun _ => True) ?hr ?hp (fun _ hk => hk) trivial (Below.refl _ _) (Nat.le_refl _) (by simp) ?_; (case hd => rfl); (case hg => rfl); (case hr => first | (go_simp; done) | (go_simp; rfl)); (case hp => exact (Reps.one (show Kd.M (Kd.int .i64) _ _ _ 46 [.int .i64 46] from rfl) (Reps.one (show Kd.M (Kd.int .i64) _ _ _ 44 [.int .i64 44] from rfl) (Reps.one (show Kd.M (Kd.int .i64) _ _ _ 33 [.int .i64 33] from rfl) (Reps.one (show Kd.M (Kd.int .i64) _ _ _ 63 [.int .i64 63] from rfl) (Reps.one (show Kd.M (Kd.int .i64) _ _ _ 39 [.int .i64 39] from rfl) (Reps.one (show Kd.M (Kd.int .i64) _ _ _ 40 [.int .i64 40] from rfl) (Reps.one (show Kd.M (Kd.int .i64) _ _ _ 41 [.int .i64 41] from rfl) (Reps.one (show Kd.M (Kd.int .i64) _ _ _ 91 [.int .i64 91] from rfl) (Reps.one (show Kd.M (Kd.int .i64) _ _ _ 93 [.int .i64 93] from rfl) (Reps.one (show Kd.M (Kd.int .i64) _ _ _ 45 [.int .i64 45] from rfl) (Reps.one (show Kd.M (Kd.int .i64) _ _ _ 58 [.int .i64 58] from rfl) (Reps.one (show Kd.M (Kd.int .i64) _ _ _ 95 [.int .i64 95] from rfl) (Reps.none _ _)))))))))))))); intro v183 w41 ho42 hb hg_ hnew_; clear hg_ hnew_; (first | rw [← Ny182.out] at ho42 | (simp only [Int.reduceToNat] at ho42; rw [← Ny182.out] at ho42)); have n0_ := Aside0.mk (Kd.R_lower ho42 (keep_size (w := w) (g := g) (row := none) (keepA))); have n1_ := Aside0.mk (IsS134.below (isA) hb); have n2_ := Aside0.mk (KeepBut.trans (keepA) (KeepBut.of_below hb g none) (.inl rfl)); have n3_ := Aside0.mk (below_step (belowI) hb); clear HI0; clear HK; clear HB; have HO184 := n0_; have HI0 := n1_; have HK := n2_; have HB := n3_; clear n0_ n1_ n2_ n3_; clear hb ho42) | ((with_reducible refine gate_callee (f := 82) rfl ?_); refine goesL_ (some 47) rfl rfl Tryd.func82 (by kernel_rfl) rfl #[.pointer (some ⟨g, 0, none⟩), .int .i64 12] rfl (by (try simp only [List.map_toArray, List.map_cons, List.map_nil]); first | done | rfl) ?_; (with_reducible refine (spec_l01Src_n.calls g s0_0 t139 t140 t141 12 t185 t186 t187 t188 w0 _ ?side1 ?side2 A38.out).mono ?_); (case side1 => exact isA); (case side2 => exact belowI); rintro e w43 ⟨rfl, hi, hb, hk⟩; refine ⟨_, rfl, ?_⟩; have n0_ := Aside0.mk (Kd.R_mono (Kd.R_keep (IsS134.apart (show IsS134 w0 _ g s0_0 t139 t140 t141 from isA) (by (with_reducible repeat (first | apply Kd.R_alloc | apply Kd.R_drewN | apply Kd.R_drew)); exact HO184.out) (by decide)) hk (fun _ h => h.2)) (fun _ h => h.1)); have n1_ := Aside0.mk (KeepBut.trans (keepA) hk (.inl rfl)); have n2_ := Aside0.mk (hb); have n3_ := Aside0.mk (hi); clear HO184; clear HK; clear HB; clear HI0; have HO184 := n0_; have HK := n1_; have HB := n2_; have HI0 := n3_; clear n0_ n1_ n2_ n3_; (try clear hb); (try clear hb2); (try clear hk); (try clear hi); obtain ⟨Ao44, co44, eo44⟩ := Kd.R_slice HO184.out; subst eo44; have p189 : 0 ≤ (t185 : Int) := of_decide_eq_true (by first | (with_reducible assumption) | assumption); have q189 : t185 < (y182.length : Int) := of_decide_eq_true (by first | (with_reducible assumption) | assumption); obtain ⟨ad189, e189, hx189_0⟩ := Kd.at_int (Kd.R_reads' HO184.out).2.2 t185 p189 q189; cases e189; replace p189 := eq_true p189; replace q189 := eq_true q189))
      go_ret
      exact ⟨by first | rfl | (simp [errW_none, errW_some] <;> rfl) | (simp [*, errW_none, errW_some] <;> rfl), isA, belowI, keepA⟩
     rw [if_neg c40] at H
     exact absurd H (by simp)
    rw [if_neg c39] at H
    exact absurd H (by simp)
   rw [if_neg c37] at H; have c37b0 : (t138 == 6) = false := beq_eq_false_iff_ne.mpr c37; have c37b1 : (t138 != 6) = true := bne_iff_ne.mpr c37; have HC45 := Aside0.mk H; clear H
   go_upto_if 50 with (fail)
   go_cut [50] (fun v50 wc => ∃ (kq : Nat) (x50_44 : Bool), v50 = .bool x50_44 ∧ Aside0 (spec_l01Src_point.j1 kq t138 x50_44 s0_0 t139 t140 t141 = some (r1, r2, r3, r4)) ∧ Aside0 (kq ≤ kj2) ∧ Aside0 (IsS134 w0 wc g s0_0 t139 t140 t141) ∧ Aside0 (KeepBut w wc g none) ∧ Aside0 (Below w0.heap.size w0 wc))
   case first =>
    have H := HC45.out; clear HC45
    by_cases c46 : t138 = 7
    ·exfalso
     have h_ := HV.out; rw [c46] at h_
     exact absurd h_ (by decide)
    rw [if_neg c46] at H; have c46b0 : (t138 == 7) = false := beq_eq_false_iff_ne.mpr c46; have c46b1 : (t138 != 7) = true := bne_iff_ne.mpr c46
    (first | rw [c46b0] | (simp only [i64_w, i32_w]; rw [c46b0]) | skip)
    have H' := Aside0.mk H; clear H
    go_wp2
    go_meet
    case rel => exact ⟨_, ((t138 == 8)), (by first | rfl | (simp; done) | (simp [*]; done)), H', ⟨by have := HJ2.out; first | omega | exact Nat.le_refl _⟩, ⟨isA⟩, ⟨keepA⟩, ⟨belowI⟩⟩
   case rest =>
    clear HC45
    try clear c1; try clear p1; try clear q1; try clear hx1; try clear c2; try clear p2; try clear c3; try clear c4; try clear c5; try clear c5b0; try clear c5b1; try clear c6; try clear c6b0; try clear c6b1; try clear p6; try clear c7; try clear c8; try clear c10; try clear c10b0; try clear c10b1; try clear c13; try clear c13b0; try clear c13b1; try clear c15; try clear c15b0; try clear p15; try clear q15; try clear hx15; try clear c16; try clear c16b0; try clear c17; try clear p18; try clear q18; try clear hx18; try clear c21; try clear c21b0; try clear c21b1; try clear c27; try clear c27b0; try clear c28; try clear c28b0; try clear c37; try clear c37b0; try clear c37b1; try clear c39; try clear c39b0; try clear c40; try clear c40b0; try clear c46; try clear c46b0; try clear c46b1; try clear hx157_0; try clear hx181_0; try clear hx189_0; try clear p157; try clear p181; try clear p189; try clear p2; try clear q157; try clear q181; try clear q189
    obtain ⟨kq, x50_44, rfl, HA, HJ44, HI0, HK, HB⟩ := hcut
    cases kq with
    | zero => exact absurd HA.out (by simp [spec_l01Src_point.j1])
    | succ kj44 =>
     have H := HA.out; clear HA; simp only [spec_l01Src_point.j1] at H
     by_cases c47 : x50_44 = true
     ·subst c47
      have H1 : ((spec_l01Src_n.f s0_0 t139 t140 t141 3).bind fun bt190 => ((spec_l01Src_n.f s0_0 bt190.2.1 bt190.2.2.1 bt190.2.2.2 76).bind fun bt194 => (some (wrap64 ((wrap64 (512 + (wrap64 (256 * bt190.1)))) + bt194.1), bt194.2.1, bt194.2.2.1, bt194.2.2.2)))) = some (r1, r2, r3, r4) := by rw [if_pos rfl] at H; exact H
      clear H; have H := H1; clear H1; replace H := Option.bind_eq_some_iff.mp H; obtain ⟨⟨t190, t191, t192, t193⟩, A480, H⟩ := H
      try dsimp only at H
      have A48 := Aside0.mk A480; clear A480; replace H := Option.bind_eq_some_iff.mp H; obtain ⟨⟨t194, t195, t196, t197⟩, A490, H⟩ := H
      try dsimp only at H
      have A49 := Aside0.mk A490; clear A490; simp only [Option.some.injEq, Prod.mk.injEq] at H; obtain ⟨rfl, rfl, rfl, rfl⟩ := H
      go_wp2_with (first | ((with_reducible refine gate_callee (f := 82) rfl ?_); refine goesL_ (some 54) rfl rfl Tryd.func82 (by kernel_rfl) rfl #[.pointer (some ⟨g, 0, none⟩), .int .i64 3] rfl (by (try simp only [List.map_toArray, List.map_cons, List.map_nil]); first | done | rfl) ?_; refine (spec_l01Src_n.callsA g s0_0 t139 t140 t141 3 t190 t191 t192 t193 w0 _ _ A48.out).mono ?_; rintro e w50 ⟨rfl, hi, hb, hk⟩; refine ⟨_, rfl, ?_⟩; replace HI0 := hi; replace HB := hb; replace HK := hk; clear hi hb hk) | ((with_reducible refine gate_callee (f := 82) rfl ?_); refine goesL_ (some 58) rfl rfl Tryd.func82 (by kernel_rfl) rfl #[.pointer (some ⟨g, 0, none⟩), .int .i64 76] rfl (by (try simp only [List.map_toArray, List.map_cons, List.map_nil]); first | done | rfl) ?_; refine (spec_l01Src_n.callsA g s0_0 t191 t192 t193 76 t194 t195 t196 t197 w0 _ _ A49.out).mono ?_; rintro e w51 ⟨rfl, hi, hb, hk⟩; refine ⟨_, rfl, ?_⟩; replace HI0 := hi; replace HB := hb; replace HK := hk; clear hi hb hk))
      go_ret
      exact ⟨by first | rfl | (simp [errW_none, errW_some] <;> rfl) | (simp [*, errW_none, errW_some] <;> rfl), isA, belowI, keepA⟩
     replace c47 := Bool.eq_false_iff.mpr c47; subst c47
     have H1 : (if t138 = 9 then ((spec_l01Src_n.f s0_0 t139 t140 t141 3).bind fun bt198 => ((spec_l01Src_n.f s0_0 bt198.2.1 bt198.2.2.1 bt198.2.2.2 2).bind fun bt202 => (some (wrap64 ((wrap64 ((wrap64 (512 + (wrap64 (256 * bt198.1)))) + 96)) + bt202.1), bt202.2.1, bt202.2.2.1, bt202.2.2.2)))) else (if t138 = 10 then (spec_l01Src_point.j2 kj44 t138 (t138 == 10) s0_0 t139 t140 t141) else (spec_l01Src_point.j2 kj44 t138 (t138 == 11) s0_0 t139 t140 t141))) = some (r1, r2, r3, r4) := by rw [if_neg (show ¬ (false = true) by decide)] at H; exact H
     clear H; have H := H1; clear H1
     by_cases c52 : t138 = 9
     ·exfalso
      have h_ := HV.out; rw [c52] at h_
      exact absurd h_ (by decide)
     rw [if_neg c52] at H; have c52b0 : (t138 == 9) = false := beq_eq_false_iff_ne.mpr c52; have c52b1 : (t138 != 9) = true := bne_iff_ne.mpr c52; have HC57 := Aside0.mk H; clear H
     go_upto_if 70 with (fail)
     go_cut [70] (fun v70 wc => ∃ (kq : Nat) (x70_56 : Bool), v70 = .bool x70_56 ∧ Aside0 (spec_l01Src_point.j2 kq t138 x70_56 s0_0 t139 t140 t141 = some (r1, r2, r3, r4)) ∧ Aside0 (kq ≤ kj44) ∧ Aside0 (IsS134 w0 wc g s0_0 t139 t140 t141) ∧ Aside0 (KeepBut w wc g none) ∧ Aside0 (Below w0.heap.size w0 wc))
     case first =>
      have H := HC57.out; clear HC57
      by_cases c58 : t138 = 10
      ·exfalso
       have h_ := HV.out; rw [c58] at h_
       exact absurd h_ (by decide)
      rw [if_neg c58] at H; have c58b0 : (t138 == 10) = false := beq_eq_false_iff_ne.mpr c58; have c58b1 : (t138 != 10) = true := bne_iff_ne.mpr c58
      (first | rw [c58b0] | (simp only [i64_w, i32_w]; rw [c58b0]) | skip)
      have H' := Aside0.mk H; clear H
      go_wp2
      go_meet
      case rel => exact ⟨_, ((t138 == 11)), (by first | rfl | (simp; done) | (simp [*]; done)), H', ⟨by have := HJ2.out; have := HJ44.out; first | omega | exact Nat.le_refl _⟩, ⟨isA⟩, ⟨keepA⟩, ⟨belowI⟩⟩
     case rest =>
      clear HC57
      try clear c1; try clear p1; try clear q1; try clear hx1; try clear c2; try clear p2; try clear c3; try clear c4; try clear c5; try clear c5b0; try clear c5b1; try clear c6; try clear c6b0; try clear c6b1; try clear p6; try clear c7; try clear c8; try clear c10; try clear c10b0; try clear c10b1; try clear c13; try clear c13b0; try clear c13b1; try clear c15; try clear c15b0; try clear p15; try clear q15; try clear hx15; try clear c16; try clear c16b0; try clear c17; try clear p18; try clear q18; try clear hx18; try clear c21; try clear c21b0; try clear c21b1; try clear c27; try clear c27b0; try clear c28; try clear c28b0; try clear c37; try clear c37b0; try clear c37b1; try clear c39; try clear c39b0; try clear c40; try clear c40b0; try clear c46; try clear c46b0; try clear c46b1; try clear c47; try clear c52; try clear c52b0; try clear c52b1; try clear c58; try clear c58b0; try clear c58b1; try clear hx157_0; try clear hx181_0; try clear hx189_0; try clear p1; try clear p15; try clear p157; try clear p18; try clear p181; try clear p189; try clear p2; try clear p6; try clear q1; try clear q15; try clear q157; try clear q18; try clear q181; try clear q189
      obtain ⟨kq, x70_56, rfl, HA, HJ56, HI0, HK, HB⟩ := hcut
      cases kq with
      | zero => exact absurd HA.out (by simp [spec_l01Src_point.j2])
      | succ kj56 =>
       have H := HA.out; clear HA; simp only [spec_l01Src_point.j2] at H
       by_cases c59 : x70_56 = true
       ·subst c59
        have H1 : ((spec_l01Src_n.f s0_0 t139 t140 t141 32).bind fun bt206 => (some (wrap64 (1280 + bt206.1), bt206.2.1, bt206.2.2.1, bt206.2.2.2))) = some (r1, r2, r3, r4) := by rw [if_pos rfl] at H; exact H
        clear H; have H := H1; clear H1; replace H := Option.bind_eq_some_iff.mp H; obtain ⟨⟨t206, t207, t208, t209⟩, A600, H⟩ := H
        try dsimp only at H
        have A60 := Aside0.mk A600; clear A600; simp only [Option.some.injEq, Prod.mk.injEq] at H; obtain ⟨rfl, rfl, rfl, rfl⟩ := H
        go_wp2_with (first | ((with_reducible refine gate_callee (f := 82) rfl ?_); refine goesL_ (some 74) rfl rfl Tryd.func82 (by kernel_rfl) rfl #[.pointer (some ⟨g, 0, none⟩), .int .i64 32] rfl (by (try simp only [List.map_toArray, List.map_cons, List.map_nil]); first | done | rfl) ?_; refine (spec_l01Src_n.callsA g s0_0 t139 t140 t141 32 t206 t207 t208 t209 w0 _ _ A60.out).mono ?_; rintro e w61 ⟨rfl, hi, hb, hk⟩; refine ⟨_, rfl, ?_⟩; replace HI0 := hi; replace HB := hb; replace HK := hk; clear hi hb hk))
        go_ret
        exact ⟨by first | rfl | (simp [errW_none, errW_some] <;> rfl) | (simp [*, errW_none, errW_some] <;> rfl), isA, belowI, keepA⟩
       replace c59 := Bool.eq_false_iff.mpr c59; subst c59
       have H1 : (if t138 = 12 then ((spec_l01Src_n.f s0_0 t139 t140 t141 32).bind fun bt210 => ((spec_l01Src_n.f s0_0 bt210.2.1 bt210.2.2.1 bt210.2.2.2 12).bind fun bt214 => ((some (([wrap64 (1536 + bt210.1), wrap64 (1568 + bt214.1), 1584, 1585] : List Int) : List Int)).bind fun y218 => ((spec_l01Src_n.f s0_0 bt214.2.1 bt214.2.2.1 bt214.2.2.2 4).bind fun bt221 => (if 0 ≤ bt221.1 then (if bt221.1 < (y218.length : Int) then (some (rd y218 bt221.1, bt221.2.1, bt221.2.2.1, bt221.2.2.2)) else (none)) else (none)))))) else (if t138 = 13 then ((spec_l01Src_n.f s0_0 t139 t140 t141 19).bind fun bt226 => ((spec_l01Src_n.f s0_0 bt226.2.1 bt226.2.2.1 bt226.2.2.2 21).bind fun bt230 => ((spec_l01Src_n.f s0_0 bt230.2.1 bt230.2.2.1 bt230.2.2.2 27).bind fun bt234 => ((some (([wrap64 (1792 + bt226.1), wrap64 (1824 + bt230.1), wrap64 (1857 + bt234.1)] : List Int) : List Int)).bind fun y238 => ((spec_l01Src_n.f s0_0 bt234.2.1 bt234.2.2.1 bt234.2.2.2 3).bind fun bt241 => (if 0 ≤ bt241.1 then (if bt241.1 < (y238.length : Int) then (some (rd y238 bt241.1, bt241.2.1, bt241.2.2.1, bt241.2.2.2)) else (none)) else (none))))))) else (if t138 = 14 then ((spec_l01Src_n.f s0_0 t139 t140 t141 48).bind fun bt246 => (some (wrap64 (2048 + bt246.1), bt246.2.1, bt246.2.2.1, bt246.2.2.2))) else (if t138 = 15 then (spec_l01Src_point.j3 kj56 t138 (t138 == 15) s0_0 t139 t140 t141) else (spec_l01Src_point.j3 kj56 t138 (t138 == 16) s0_0 t139 t140 t141))))) = some (r1, r2, r3, r4) := by rw [if_neg (show ¬ (false = true) by decide)] at H; exact H
       clear H; have H := H1; clear H1
       by_cases c62 : t138 = 12
       ·exfalso
        have h_ := HV.out; rw [c62] at h_
        exact absurd h_ (by decide)
       rw [if_neg c62] at H; have c62b0 : (t138 == 12) = false := beq_eq_false_iff_ne.mpr c62; have c62b1 : (t138 != 12) = true := bne_iff_ne.mpr c62
       by_cases c74 : t138 = 13
       ·exfalso
        have h_ := HV.out; rw [c74] at h_
        exact absurd h_ (by decide)
       rw [if_neg c74] at H; have c74b0 : (t138 == 13) = false := beq_eq_false_iff_ne.mpr c74; have c74b1 : (t138 != 13) = true := bne_iff_ne.mpr c74
       by_cases c88 : t138 = 14
       ·exfalso
        have h_ := HV.out; rw [c88] at h_
        exact absurd h_ (by decide)
       rw [if_neg c88] at H; have c88b0 : (t138 == 14) = false := beq_eq_false_iff_ne.mpr c88; have c88b1 : (t138 != 14) = true := bne_iff_ne.mpr c88; have HC91 := Aside0.mk H; clear H
       go_upto_if 110 with (fail)
       go_cut [110] (fun v110 wc => ∃ (kq : Nat) (x110_90 : Bool), v110 = .bool x110_90 ∧ Aside0 (spec_l01Src_point.j3 kq t138 x110_90 s0_0 t139 t140 t141 = some (r1, r2, r3, r4)) ∧ Aside0 (kq ≤ kj56) ∧ Aside0 (IsS134 w0 wc g s0_0 t139 t140 t141) ∧ Aside0 (KeepBut w wc g none) ∧ Aside0 (Below w0.heap.size w0 wc))
       case first =>
        have H := HC91.out; clear HC91
        by_cases c92 : t138 = 15
        ·exfalso
         have h_ := HV.out; rw [c92] at h_
         exact absurd h_ (by decide)
        rw [if_neg c92] at H; have c92b0 : (t138 == 15) = false := beq_eq_false_iff_ne.mpr c92; have c92b1 : (t138 != 15) = true := bne_iff_ne.mpr c92
        (first | rw [c92b0] | (simp only [i64_w, i32_w]; rw [c92b0]) | skip)
        have H' := Aside0.mk H; clear H
        go_wp2
        go_meet
        case rel => exact ⟨_, ((t138 == 16)), (by first | rfl | (simp; done) | (simp [*]; done)), H', ⟨by have := HJ2.out; have := HJ44.out; have := HJ56.out; first | omega | exact Nat.le_refl _⟩, ⟨isA⟩, ⟨keepA⟩, ⟨belowI⟩⟩
       case rest =>
        clear HC91
        try clear c1; try clear p1; try clear q1; try clear hx1; try clear c2; try clear p2; try clear q2; try clear hx2; try clear c3; try clear c4; try clear c5; try clear c5b0; try clear c5b1; try clear c6; try clear c6b0; try clear c6b1; try clear p6; try clear c7; try clear c8; try clear c9; try clear c10; try clear c10b0; try clear c10b1; try clear c13; try clear c13b0; try clear c13b1; try clear c15; try clear c15b0; try clear p15; try clear q15; try clear hx15; try clear c16; try clear c16b0; try clear c17; try clear p18; try clear q18; try clear hx18; try clear c21; try clear c21b0; try clear c21b1; try clear p22; try clear q22; try clear hx22; try clear p24; try clear q24; try clear hx24; try clear c27; try clear c27b0; try clear c28; try clear c28b0; try clear c37; try clear c37b0; try clear c37b1; try clear c39; try clear c39b0; try clear c40; try clear c40b0; try clear c46; try clear c46b0; try clear c46b1; try clear c47; try clear c52; try clear c52b0; try clear c52b1; try clear c58; try clear c58b0; try clear c58b1; try clear c59; try clear c62; try clear c62b0; try clear c62b1; try clear p64; try clear c66; try clear c66b0; try clear c67; try clear c67b0; try clear c74; try clear c74b0; try clear c74b1; try clear c79; try clear c79b0; try clear c80; try clear c80b0; try clear c82; try clear c88; try clear c88b0; try clear c88b1; try clear c92; try clear c92b0; try clear c92b1; try clear hx157_0; try clear hx181_0; try clear hx189_0; try clear hx225_0; try clear hx245_0; try clear p1; try clear p15; try clear p157; try clear p18; try clear p181; try clear p189; try clear p2; try clear p225; try clear p245; try clear p6; try clear q1; try clear q15; try clear q157; try clear q18; try clear q181; try clear q189; try clear q225; try clear q245
        obtain ⟨kq, x110_90, rfl, HA, HJ90, HI0, HK, HB⟩ := hcut
        cases kq with
        | zero => exact absurd HA.out (by simp [spec_l01Src_point.j3])
        | succ kj90 =>
         have H := HA.out; clear HA; simp only [spec_l01Src_point.j3] at H
         by_cases c93 : x110_90 = true
         ·subst c93
          have H1 : ((spec_l01Src_n.f s0_0 t139 t140 t141 64).bind fun bt250 => (some (wrap64 (4096 + bt250.1), bt250.2.1, bt250.2.2.1, bt250.2.2.2))) = some (r1, r2, r3, r4) := by rw [if_pos rfl] at H; exact H
          clear H; have H := H1; clear H1; replace H := Option.bind_eq_some_iff.mp H; obtain ⟨⟨t250, t251, t252, t253⟩, A940, H⟩ := H
          try dsimp only at H
          have A94 := Aside0.mk A940; clear A940; simp only [Option.some.injEq, Prod.mk.injEq] at H; obtain ⟨rfl, rfl, rfl, rfl⟩ := H
          go_wp2_with (first | ((with_reducible refine gate_callee (f := 82) rfl ?_); refine goesL_ (some 114) rfl rfl Tryd.func82 (by kernel_rfl) rfl #[.pointer (some ⟨g, 0, none⟩), .int .i64 64] rfl (by (try simp only [List.map_toArray, List.map_cons, List.map_nil]); first | done | rfl) ?_; refine (spec_l01Src_n.callsA g s0_0 t139 t140 t141 64 t250 t251 t252 t253 w0 _ _ A94.out).mono ?_; rintro e w95 ⟨rfl, hi, hb, hk⟩; refine ⟨_, rfl, ?_⟩; replace HI0 := hi; replace HB := hb; replace HK := hk; clear hi hb hk))
          go_ret
          exact ⟨by first | rfl | (simp [errW_none, errW_some] <;> rfl) | (simp [*, errW_none, errW_some] <;> rfl), isA, belowI, keepA⟩
         replace c93 := Bool.eq_false_iff.mpr c93; subst c93
         have H1 : (if t138 = 17 then ((spec_l01Src_n.f s0_0 t139 t140 t141 64).bind fun bt254 => ((spec_l01Src_n.f s0_0 bt254.2.1 bt254.2.2.1 bt254.2.2.2 5).bind fun bt258 => ((spec_l01Src_n.f s0_0 bt258.2.1 bt258.2.2.1 bt258.2.2.2 26).bind fun bt262 => ((some (([wrap64 (7680 + bt254.1), wrap64 (7744 + bt258.1), wrap64 (7760 + bt262.1)] : List Int) : List Int)).bind fun y266 => ((spec_l01Src_n.f s0_0 bt262.2.1 bt262.2.2.1 bt262.2.2.2 3).bind fun bt269 => (if 0 ≤ bt269.1 then (if bt269.1 < (y266.length : Int) then (some (rd y266 bt269.1, bt269.2.1, bt269.2.2.1, bt269.2.2.2)) else (none)) else (none))))))) else (if t138 = 18 then ((spec_l01Src_n.f s0_0 t139 t140 t141 12).bind fun bt274 => ((some (([wrap64 (7936 + bt274.1), 7953, 7954] : List Int) : List Int)).bind fun y278 => ((spec_l01Src_n.f s0_0 bt274.2.1 bt274.2.2.1 bt274.2.2.2 3).bind fun bt281 => (if 0 ≤ bt281.1 then (if bt281.1 < (y278.length : Int) then (some (rd y278 bt281.1, bt281.2.1, bt281.2.2.1, bt281.2.2.2)) else (none)) else (none))))) else (if t138 = 19 then (spec_l01Src_point.j4 kj90 t138 (t138 == 19) s0_0 t139 t140 t141) else (spec_l01Src_point.j4 kj90 t138 (t138 == 20) s0_0 t139 t140 t141)))) = some (r1, r2, r3, r4) := by rw [if_neg (show ¬ (false = true) by decide)] at H; exact H
         clear H; have H := H1; clear H1
         by_cases c96 : t138 = 17
         ·exfalso
          have h_ := HV.out; rw [c96] at h_
          exact absurd h_ (by decide)
         rw [if_neg c96] at H; have c96b0 : (t138 == 17) = false := beq_eq_false_iff_ne.mpr c96; have c96b1 : (t138 != 17) = true := bne_iff_ne.mpr c96
         by_cases c110 : t138 = 18
         ·exfalso
          have h_ := HV.out; rw [c110] at h_
          exact absurd h_ (by decide)
         rw [if_neg c110] at H; have c110b0 : (t138 == 18) = false := beq_eq_false_iff_ne.mpr c110; have c110b1 : (t138 != 18) = true := bne_iff_ne.mpr c110; have HC120 := Aside0.mk H; clear H
         go_upto_if 142 with (fail)
         go_cut [142] (fun v142 wc => ∃ (kq : Nat) (x142_119 : Bool), v142 = .bool x142_119 ∧ Aside0 (spec_l01Src_point.j4 kq t138 x142_119 s0_0 t139 t140 t141 = some (r1, r2, r3, r4)) ∧ Aside0 (kq ≤ kj90) ∧ Aside0 (IsS134 w0 wc g s0_0 t139 t140 t141) ∧ Aside0 (KeepBut w wc g none) ∧ Aside0 (Below w0.heap.size w0 wc))
         case first =>
          have H := HC120.out; clear HC120
          by_cases c121 : t138 = 19
          ·exfalso
           have h_ := HV.out; rw [c121] at h_
           exact absurd h_ (by decide)
          rw [if_neg c121] at H; have c121b0 : (t138 == 19) = false := beq_eq_false_iff_ne.mpr c121; have c121b1 : (t138 != 19) = true := bne_iff_ne.mpr c121
          (first | rw [c121b0] | (simp only [i64_w, i32_w]; rw [c121b0]) | skip)
          have H' := Aside0.mk H; clear H
          go_wp2
          go_meet
          case rel => exact ⟨_, ((t138 == 20)), (by first | rfl | (simp; done) | (simp [*]; done)), H', ⟨by have := HJ2.out; have := HJ44.out; have := HJ56.out; have := HJ90.out; first | omega | exact Nat.le_refl _⟩, ⟨isA⟩, ⟨keepA⟩, ⟨belowI⟩⟩
         case rest =>
          clear HC120
          try clear c1; try clear p1; try clear q1; try clear hx1; try clear c2; try clear p2; try clear q2; try clear hx2; try clear c3; try clear c4; try clear c5; try clear c5b0; try clear c5b1; try clear c6; try clear c6b0; try clear c6b1; try clear p6; try clear c7; try clear c8; try clear c9; try clear c10; try clear c10b0; try clear c10b1; try clear c11; try clear c12; try clear c13; try clear c13b0; try clear c13b1; try clear c15; try clear c15b0; try clear p15; try clear q15; try clear hx15; try clear c16; try clear c16b0; try clear c17; try clear p18; try clear q18; try clear hx18; try clear c21; try clear c21b0; try clear c21b1; try clear p22; try clear q22; try clear hx22; try clear p24; try clear q24; try clear hx24; try clear c27; try clear c27b0; try clear p27; try clear q27; try clear hx27; try clear c28; try clear c28b0; try clear p28; try clear q28; try clear hx28; try clear c37; try clear c37b0; try clear c37b1; try clear c39; try clear c39b0; try clear c40; try clear c40b0; try clear c46; try clear c46b0; try clear c46b1; try clear c47; try clear c52; try clear c52b0; try clear c52b1; try clear c58; try clear c58b0; try clear c58b1; try clear c59; try clear c62; try clear c62b0; try clear c62b1; try clear p64; try clear c66; try clear c66b0; try clear c67; try clear c67b0; try clear c74; try clear c74b0; try clear c74b1; try clear c79; try clear c79b0; try clear c80; try clear c80b0; try clear c82; try clear c88; try clear c88b0; try clear c88b1; try clear c92; try clear c92b0; try clear c92b1; try clear c93; try clear c96; try clear c96b0; try clear c96b1; try clear c101; try clear c101b0; try clear c102; try clear c102b0; try clear c110; try clear c110b0; try clear c110b1; try clear c113; try clear c113b0; try clear c114; try clear c114b0; try clear c121; try clear c121b0; try clear c121b1; try clear hx157_0; try clear hx181_0; try clear hx189_0; try clear hx225_0; try clear hx245_0; try clear hx273_0; try clear hx285_0; try clear p1; try clear p15; try clear p157; try clear p18; try clear p181; try clear p189; try clear p2; try clear p22; try clear p225; try clear p24; try clear p245; try clear p273; try clear p285; try clear p6; try clear p64; try clear q1; try clear q15; try clear q157; try clear q18; try clear q181; try clear q189; try clear q2; try clear q22; try clear q225; try clear q24; try clear q245; try clear q273; try clear q285
          obtain ⟨kq, x142_119, rfl, HA, HJ119, HI0, HK, HB⟩ := hcut
          cases kq with
          | zero => exact absurd HA.out (by simp [spec_l01Src_point.j4])
          | succ kj119 =>
           have H := HA.out; clear HA; simp only [spec_l01Src_point.j4] at H
           by_cases c122 : x142_119 = true
           ·subst c122
            have H1 : ((spec_l01Src_n.f s0_0 t139 t140 t141 3).bind fun bt286 => ((spec_l01Src_n.f s0_0 bt286.2.1 bt286.2.2.1 bt286.2.2.2 416).bind fun bt290 => (some (wrap64 ((wrap64 (8192 + (wrap64 (512 * bt286.1)))) + bt290.1), bt290.2.1, bt290.2.2.1, bt290.2.2.2)))) = some (r1, r2, r3, r4) := by rw [if_pos rfl] at H; exact H
            clear H; have H := H1; clear H1; replace H := Option.bind_eq_some_iff.mp H; obtain ⟨⟨t286, t287, t288, t289⟩, A1230, H⟩ := H
            try dsimp only at H
            have A123 := Aside0.mk A1230; clear A1230; replace H := Option.bind_eq_some_iff.mp H; obtain ⟨⟨t290, t291, t292, t293⟩, A1240, H⟩ := H
            try dsimp only at H
            have A124 := Aside0.mk A1240; clear A1240; simp only [Option.some.injEq, Prod.mk.injEq] at H; obtain ⟨rfl, rfl, rfl, rfl⟩ := H
            go_wp2_with (first | ((with_reducible refine gate_callee (f := 82) rfl ?_); refine goesL_ (some 146) rfl rfl Tryd.func82 (by kernel_rfl) rfl #[.pointer (some ⟨g, 0, none⟩), .int .i64 3] rfl (by (try simp only [List.map_toArray, List.map_cons, List.map_nil]); first | done | rfl) ?_; refine (spec_l01Src_n.callsA g s0_0 t139 t140 t141 3 t286 t287 t288 t289 w0 _ _ A123.out).mono ?_; rintro e w125 ⟨rfl, hi, hb, hk⟩; refine ⟨_, rfl, ?_⟩; replace HI0 := hi; replace HB := hb; replace HK := hk; clear hi hb hk) | ((with_reducible refine gate_callee (f := 82) rfl ?_); refine goesL_ (some 150) rfl rfl Tryd.func82 (by kernel_rfl) rfl #[.pointer (some ⟨g, 0, none⟩), .int .i64 416] rfl (by (try simp only [List.map_toArray, List.map_cons, List.map_nil]); first | done | rfl) ?_; refine (spec_l01Src_n.callsA g s0_0 t287 t288 t289 416 t290 t291 t292 t293 w0 _ _ A124.out).mono ?_; rintro e w126 ⟨rfl, hi, hb, hk⟩; refine ⟨_, rfl, ?_⟩; replace HI0 := hi; replace HB := hb; replace HK := hk; clear hi hb hk))
            go_ret
            exact ⟨by first | rfl | (simp [errW_none, errW_some] <;> rfl) | (simp [*, errW_none, errW_some] <;> rfl), isA, belowI, keepA⟩
           replace c122 := Bool.eq_false_iff.mpr c122; subst c122
           have H1 : (if t138 = 21 then ((spec_l01Src_n.f s0_0 t139 t140 t141 26).bind fun bt294 => ((spec_l01Src_n.f s0_0 bt294.2.1 bt294.2.2.1 bt294.2.2.2 26).bind fun bt298 => ((spec_l01Src_n.f s0_0 bt298.2.1 bt298.2.2.1 bt298.2.2.2 4).bind fun bt302 => ((some (([wrap64 (9728 + bt294.1), wrap64 (9984 + bt298.1), wrap64 (10032 + bt302.1)] : List Int) : List Int)).bind fun y306 => ((spec_l01Src_n.f s0_0 bt302.2.1 bt302.2.2.1 bt302.2.2.2 3).bind fun bt309 => (if 0 ≤ bt309.1 then (if bt309.1 < (y306.length : Int) then (some (rd y306 bt309.1, bt309.2.1, bt309.2.2.1, bt309.2.2.2)) else (none)) else (none))))))) else (if t138 = 22 then ((spec_l01Src_n.f s0_0 t139 t140 t141 11172).bind fun bt314 => ((spec_l01Src_n.f s0_0 bt314.2.1 bt314.2.2.1 bt314.2.2.2 2048).bind fun bt318 => ((some (([wrap64 (12288 + bt314.1), wrap64 (24576 + bt318.1)] : List Int) : List Int)).bind fun y322 => ((spec_l01Src_n.f s0_0 bt318.2.1 bt318.2.2.1 bt318.2.2.2 2).bind fun bt325 => (if 0 ≤ bt325.1 then (if bt325.1 < (y322.length : Int) then (some (rd y322 bt325.1, bt325.2.1, bt325.2.2.1, bt325.2.2.2)) else (none)) else (none)))))) else ((spec_l01Src_n.f s0_0 t139 t140 t141 12288).bind fun bt330 => ((spec_l01Src_n.f s0_0 bt330.2.1 bt330.2.2.1 bt330.2.2.2 4096).bind fun bt334 => ((spec_l01Src_n.f s0_0 bt334.2.1 bt334.2.2.1 bt334.2.2.2 32768).bind fun bt338 => ((some (([65533, wrap64 (20480 + bt330.1), wrap64 (65536 + bt334.1), 1114111, 65535, bt338.1] : List Int) : List Int)).bind fun y342 => ((spec_l01Src_n.f s0_0 bt338.2.1 bt338.2.2.1 bt338.2.2.2 6).bind fun bt345 => (if 0 ≤ bt345.1 then (if bt345.1 < (y342.length : Int) then (some (rd y342 bt345.1, bt345.2.1, bt345.2.2.1, bt345.2.2.2)) else (none)) else (none))))))))) = some (r1, r2, r3, r4) := by rw [if_neg (show ¬ (false = true) by decide)] at H; exact H
           clear H; have H := H1; clear H1
           by_cases c127 : t138 = 21
           ·exfalso
            have h_ := HV.out; rw [c127] at h_
            exact absurd h_ (by decide)
           rw [if_neg c127] at H; have c127b0 : (t138 == 21) = false := beq_eq_false_iff_ne.mpr c127; have c127b1 : (t138 != 21) = true := bne_iff_ne.mpr c127
           by_cases c141 : t138 = 22
           ·exfalso
            have h_ := HV.out; rw [c141] at h_
            exact absurd h_ (by decide)
           rw [if_neg c141] at H; have c141b0 : (t138 == 22) = false := beq_eq_false_iff_ne.mpr c141; have c141b1 : (t138 != 22) = true := bne_iff_ne.mpr c141; replace H := Option.bind_eq_some_iff.mp H; obtain ⟨⟨t330, t331, t332, t333⟩, A1530, H⟩ := H
           try dsimp only at H
           have A153 := Aside0.mk A1530; clear A1530; replace H := Option.bind_eq_some_iff.mp H; obtain ⟨⟨t334, t335, t336, t337⟩, A1540, H⟩ := H
           try dsimp only at H
           have A154 := Aside0.mk A1540; clear A1540; replace H := Option.bind_eq_some_iff.mp H; obtain ⟨⟨t338, t339, t340, t341⟩, A1550, H⟩ := H
           try dsimp only at H
           have A155 := Aside0.mk A1550; clear A1550; obtain ⟨y342, hy342⟩ : ∃ y_ : List Int, y_ = (([65533, wrap64 (20480 + t330), wrap64 (65536 + t334), 1114111, 65535, t338] : List Int)) := ⟨_, rfl⟩
           replace H : ((spec_l01Src_n.f s0_0 t339 t340 t341 6).bind fun bt345 => (if 0 ≤ bt345.1 then (if bt345.1 < (y342.length : Int) then (some (rd y342 bt345.1, bt345.2.1, bt345.2.2.1, bt345.2.2.2)) else (none)) else (none))) = some (r1, r2, r3, r4) := by first | (rw [hy342]; with_reducible exact H) | (have H2_ := (Option.bind_some _ _).symm.trans H; rw [hy342]; with_reducible exact H2_) | (have H2_ := (Option.bind_some _ _).symm.trans H; with_reducible exact H2_) | with_reducible exact H | (rw [hy342]; exact H) | exact H
           have Ny342 := Aside0.mk hy342; clear hy342; replace H := Option.bind_eq_some_iff.mp H; obtain ⟨⟨t345, t346, t347, t348⟩, A1560, H⟩ := H
           try dsimp only at H
           have A156 := Aside0.mk A1560; clear A1560
           by_cases c157 : 0 ≤ t345
           ·rw [if_pos c157] at H
            have c157b0 : decide (0 ≤ t345) = true := decide_eq_true c157; clear c157
            by_cases c158 : t345 < (y342.length : Int)
            ·rw [if_pos c158] at H
             have c158b0 : decide (t345 < (y342.length : Int)) = true := decide_eq_true c158; clear c158; simp only [Option.some.injEq, Prod.mk.injEq] at H; obtain ⟨rfl, rfl, rfl, rfl⟩ := H
             go_wp2_with (first | ((with_reducible refine gate_callee (f := 82) rfl ?_); refine goesL_ (some 182) rfl rfl Tryd.func82 (by kernel_rfl) rfl #[.pointer (some ⟨g, 0, none⟩), .int .i64 12288] rfl (by (try simp only [List.map_toArray, List.map_cons, List.map_nil]); first | done | rfl) ?_; refine (spec_l01Src_n.callsA g s0_0 t139 t140 t141 12288 t330 t331 t332 t333 w0 _ _ A153.out).mono ?_; rintro e w159 ⟨rfl, hi, hb, hk⟩; refine ⟨_, rfl, ?_⟩; replace HI0 := hi; replace HB := hb; replace HK := hk; clear hi hb hk) | ((with_reducible refine gate_callee (f := 82) rfl ?_); refine goesL_ (some 185) rfl rfl Tryd.func82 (by kernel_rfl) rfl #[.pointer (some ⟨g, 0, none⟩), .int .i64 4096] rfl (by (try simp only [List.map_toArray, List.map_cons, List.map_nil]); first | done | rfl) ?_; refine (spec_l01Src_n.callsA g s0_0 t331 t332 t333 4096 t334 t335 t336 t337 w0 _ _ A154.out).mono ?_; rintro e w160 ⟨rfl, hi, hb, hk⟩; refine ⟨_, rfl, ?_⟩; replace HI0 := hi; replace HB := hb; replace HK := hk; clear hi hb hk) | ((with_reducible refine gate_callee (f := 82) rfl ?_); refine goesL_ (some 188) rfl rfl Tryd.func82 (by kernel_rfl) rfl #[.pointer (some ⟨g, 0, none⟩), .int .i64 32768] rfl (by (try simp only [List.map_toArray, List.map_cons, List.map_nil]); first | done | rfl) ?_; refine (spec_l01Src_n.callsA g s0_0 t335 t336 t337 32768 t338 t339 t340 t341 w0 _ _ A155.out).mono ?_; rintro e w161 ⟨rfl, hi, hb, hk⟩; refine ⟨_, rfl, ?_⟩; replace HI0 := hi; replace HB := hb; replace HK := hk; clear hi hb hk) | ((with_reducible refine gate_dst (N := 189) rfl ?_); refine Kd.R_lit (Kd.int .i64) _ 2 ?hg (N := 189) ?hd (xs := ([65533, wrap64 (20480 + t330), wrap64 (65536 + t334), 1114111, 65535, t338] : List Int)) (inner := [.int .i64 65533, .int .i64 (wrap64 (20480 + t330)), .int .i64 (wrap64 (65536 + t334)), .int .i64 1114111, .int .i64 65535, .int .i64 t338]) (ok := fun _ => True) (okp := fun _ => True) ?hr ?hp (fun _ hk => hk) trivial (Below.refl _ _) (Nat.le_refl _) (by simp) ?_; (case hd => rfl); (case hg => rfl); (case hr => first | (go_simp; done) | (go_simp; rfl)); (case hp => exact (Reps.one (show Kd.M (Kd.int .i64) _ _ _ 65533 [.int .i64 65533] from rfl) (Reps.one (show Kd.M (Kd.int .i64) _ _ _ (wrap64 (20480 + t330)) [.int .i64 (wrap64 (20480 + t330))] from rfl) (Reps.one (show Kd.M (Kd.int .i64) _ _ _ (wrap64 (65536 + t334)) [.int .i64 (wrap64 (65536 + t334))] from rfl) (Reps.one (show Kd.M (Kd.int .i64) _ _ _ 1114111 [.int .i64 1114111] from rfl) (Reps.one (show Kd.M (Kd.int .i64) _ _ _ 65535 [.int .i64 65535] from rfl) (Reps.one (show Kd.M (Kd.int .i64) _ _ _ t338 [.int .i64 t338] from rfl) (Reps.none _ _)))))))); intro v343 w162 ho163 hb hg_ hnew_; clear hg_ hnew_; (first | rw [← Ny342.out] at ho163 | (simp only [Int.reduceToNat] at ho163; rw [← Ny342.out] at ho163)); have n0_ := Aside0.mk (Kd.R_lower ho163 (keep_size (w := w) (g := g) (row := none) (keepA))); have n1_ := Aside0.mk (IsS134.below (isA) hb); have n2_ := Aside0.mk (KeepBut.trans (keepA) (KeepBut.of_below hb g none) (.inl rfl)); have n3_ := Aside0.mk (below_step (belowI) hb); clear HI0; clear HK; clear HB; have HO344 := n0_; have HI0 := n1_; have HK := n2_; have HB := n3_; clear n0_ n1_ n2_ n3_; clear hb ho163) | ((with_reducible refine gate_callee (f := 82) rfl ?_); refine goesL_ (some 191) rfl rfl Tryd.func82 (by kernel_rfl) rfl #[.pointer (some ⟨g, 0, none⟩), .int .i64 6] rfl (by (try simp only [List.map_toArray, List.map_cons, List.map_nil]); first | done | rfl) ?_; (with_reducible refine (spec_l01Src_n.calls g s0_0 t339 t340 t341 6 t345 t346 t347 t348 w0 _ ?side1 ?side2 A156.out).mono ?_); (case side1 => exact isA); (case side2 => exact belowI); rintro e w164 ⟨rfl, hi, hb, hk⟩; refine ⟨_, rfl, ?_⟩; have n0_ := Aside0.mk (Kd.R_mono (Kd.R_keep (IsS134.apart (show IsS134 w0 _ g s0_0 t339 t340 t341 from isA) (by (with_reducible repeat (first | apply Kd.R_alloc | apply Kd.R_drewN | apply Kd.R_drew)); exact HO344.out) (by decide)) hk (fun _ h => h.2)) (fun _ h => h.1)); have n1_ := Aside0.mk (KeepBut.trans (keepA) hk (.inl rfl)); have n2_ := Aside0.mk (hb); have n3_ := Aside0.mk (hi); clear HO344; clear HK; clear HB; clear HI0; have HO344 := n0_; have HK := n1_; have HB := n2_; have HI0 := n3_; clear n0_ n1_ n2_ n3_; (try clear hb); (try clear hb2); (try clear hk); (try clear hi); obtain ⟨Ao165, co165, eo165⟩ := Kd.R_slice HO344.out; subst eo165; have p349 : 0 ≤ (t345 : Int) := of_decide_eq_true (by first | (with_reducible assumption) | assumption); have q349 : t345 < (y342.length : Int) := of_decide_eq_true (by first | (with_reducible assumption) | assumption); obtain ⟨ad349, e349, hx349_0⟩ := Kd.at_int (Kd.R_reads' HO344.out).2.2 t345 p349 q349; cases e349; replace p349 := eq_true p349; replace q349 := eq_true q349))
             go_ret
             exact ⟨by first | rfl | (simp [errW_none, errW_some] <;> rfl) | (simp [*, errW_none, errW_some] <;> rfl), isA, belowI, keepA⟩
            rw [if_neg c158] at H
            exact absurd H (by simp)
           rw [if_neg c157] at H
           exact absurd H (by simp)

end Go.Proofs.YtiabgmddnddeiaaDoor.QFnStable
