/- The law FnDetected: at every input the call answers true (this text: contracts on its way, by a program of this session's; no condition of ours). -/
import Derived.Test.YtphjfenhnhfakaaDoorQFnDetectedx0
import Derived.Test.YtphjfenhnhfakaaDoorQFnDetectedx1
import Derived.Test.YtphjfenhnhfakaaDoorQFnDetectedx2
namespace Go.Proofs.YtphjfenhnhfakaaDoor.QFnDetected
open Go.RowKit Go.Proofs.YtphjfenhnhfakaaDoorW.PrintWords Go.Proofs.YtphjfenhnhfakaaDoorW.PrintLast Go.Proofs.YtphjfenhnhfakaaDoorW.PrintMore
attribute [local go_sem] max2_int min2_int max_two min_two max_three min_three max_four min_four   -- for this text's walks alone
set_option linter.unusedVariables false
set_option linter.unusedSimpArgs false

/-! ### spec_l01Src_point: function 99 -/
mutual
def spec_l01Src_point.j0 : Nat → Int → Bool → List Int → Int → Int → Int → Option (Int × Int × Int × Int)
  | 0, _, _, _, _, _, _ => none
  | k + 1, x4, x5, x1000, x1001, x1002, x1003 => if x5 = true then ((spec_l01Src_n.f x1000 x1001 x1002 x1003 26).bind fun bt126 => (some (wrap64 (97 + bt126.1), bt126.2.1, bt126.2.2.1, bt126.2.2.2))) else (if x4 = 3 then ((spec_l01Src_n.f x1000 x1001 x1002 x1003 26).bind fun bt130 => (some (wrap64 (65 + bt130.1), bt130.2.1, bt130.2.2.1, bt130.2.2.2))) else (if x4 = 4 then ((some (([32, 32, 160, 10, 9, 13, 8064, 173] : List Int) : List Int)).bind fun y134 => ((spec_l01Src_n.f x1000 x1001 x1002 x1003 8).bind fun bt137 => (if 0 ≤ bt137.1 then (if bt137.1 < (y134.length : Int) then (some (rd y134 bt137.1, bt137.2.1, bt137.2.2.1, bt137.2.2.2)) else (none)) else (none)))) else (if x4 = 5 then ((spec_l01Src_n.f x1000 x1001 x1002 x1003 10).bind fun bt142 => ((spec_l01Src_n.f x1000 bt142.2.1 bt142.2.2.1 bt142.2.2.2 10).bind fun bt146 => ((spec_l01Src_n.f x1000 bt146.2.1 bt146.2.2.1 bt146.2.2.2 10).bind fun bt150 => ((spec_l01Src_n.f x1000 bt150.2.1 bt150.2.2.1 bt150.2.2.2 10).bind fun bt154 => ((some (([wrap64 (48 + bt142.1), wrap64 (592 + bt146.1), wrap64 (1360 + bt150.1), wrap64 (10016 + bt154.1)] : List Int) : List Int)).bind fun y158 => ((spec_l01Src_n.f x1000 bt154.2.1 bt154.2.2.1 bt154.2.2.2 4).bind fun bt161 => (if 0 ≤ bt161.1 then (if bt161.1 < (y158.length : Int) then (some (rd y158 bt161.1, bt161.2.1, bt161.2.2.1, bt161.2.2.2)) else (none)) else (none)))))))) else (if x4 = 6 then ((some (([46, 44, 33, 63, 39, 40, 41, 91, 93, 45, 58, 95] : List Int) : List Int)).bind fun y166 => ((spec_l01Src_n.f x1000 x1001 x1002 x1003 12).bind fun bt169 => (if 0 ≤ bt169.1 then (if bt169.1 < (y166.length : Int) then (some (rd y166 bt169.1, bt169.2.1, bt169.2.2.1, bt169.2.2.2)) else (none)) else (none)))) else (if x4 = 7 then (spec_l01Src_point.j1 k x4 (x4 == 7) x1000 x1001 x1002 x1003) else (spec_l01Src_point.j1 k x4 (x4 == 8) x1000 x1001 x1002 x1003))))))
def spec_l01Src_point.j1 : Nat → Int → Bool → List Int → Int → Int → Int → Option (Int × Int × Int × Int)
  | 0, _, _, _, _, _, _ => none
  | k + 1, x4, x50, x1000, x1001, x1002, x1003 => if x50 = true then ((spec_l01Src_n.f x1000 x1001 x1002 x1003 3).bind fun bt174 => ((spec_l01Src_n.f x1000 bt174.2.1 bt174.2.2.1 bt174.2.2.2 76).bind fun bt178 => (some (wrap64 ((wrap64 (512 + (wrap64 (256 * bt174.1)))) + bt178.1), bt178.2.1, bt178.2.2.1, bt178.2.2.2)))) else (if x4 = 9 then ((spec_l01Src_n.f x1000 x1001 x1002 x1003 3).bind fun bt182 => ((spec_l01Src_n.f x1000 bt182.2.1 bt182.2.2.1 bt182.2.2.2 2).bind fun bt186 => (some (wrap64 ((wrap64 ((wrap64 (512 + (wrap64 (256 * bt182.1)))) + 96)) + bt186.1), bt186.2.1, bt186.2.2.1, bt186.2.2.2)))) else (if x4 = 10 then (spec_l01Src_point.j2 k x4 (x4 == 10) x1000 x1001 x1002 x1003) else (spec_l01Src_point.j2 k x4 (x4 == 11) x1000 x1001 x1002 x1003)))
def spec_l01Src_point.j2 : Nat → Int → Bool → List Int → Int → Int → Int → Option (Int × Int × Int × Int)
  | 0, _, _, _, _, _, _ => none
  | k + 1, x4, x70, x1000, x1001, x1002, x1003 => if x70 = true then ((spec_l01Src_n.f x1000 x1001 x1002 x1003 32).bind fun bt190 => (some (wrap64 (1280 + bt190.1), bt190.2.1, bt190.2.2.1, bt190.2.2.2))) else (if x4 = 12 then ((spec_l01Src_n.f x1000 x1001 x1002 x1003 32).bind fun bt194 => ((spec_l01Src_n.f x1000 bt194.2.1 bt194.2.2.1 bt194.2.2.2 12).bind fun bt198 => ((some (([wrap64 (1536 + bt194.1), wrap64 (1568 + bt198.1), 1584, 1585] : List Int) : List Int)).bind fun y202 => ((spec_l01Src_n.f x1000 bt198.2.1 bt198.2.2.1 bt198.2.2.2 4).bind fun bt205 => (if 0 ≤ bt205.1 then (if bt205.1 < (y202.length : Int) then (some (rd y202 bt205.1, bt205.2.1, bt205.2.2.1, bt205.2.2.2)) else (none)) else (none)))))) else (if x4 = 13 then ((spec_l01Src_n.f x1000 x1001 x1002 x1003 19).bind fun bt210 => ((spec_l01Src_n.f x1000 bt210.2.1 bt210.2.2.1 bt210.2.2.2 21).bind fun bt214 => ((spec_l01Src_n.f x1000 bt214.2.1 bt214.2.2.1 bt214.2.2.2 27).bind fun bt218 => ((some (([wrap64 (1792 + bt210.1), wrap64 (1824 + bt214.1), wrap64 (1857 + bt218.1)] : List Int) : List Int)).bind fun y222 => ((spec_l01Src_n.f x1000 bt218.2.1 bt218.2.2.1 bt218.2.2.2 3).bind fun bt225 => (if 0 ≤ bt225.1 then (if bt225.1 < (y222.length : Int) then (some (rd y222 bt225.1, bt225.2.1, bt225.2.2.1, bt225.2.2.2)) else (none)) else (none))))))) else (if x4 = 14 then ((spec_l01Src_n.f x1000 x1001 x1002 x1003 48).bind fun bt230 => (some (wrap64 (2048 + bt230.1), bt230.2.1, bt230.2.2.1, bt230.2.2.2))) else (if x4 = 15 then (spec_l01Src_point.j3 k x4 (x4 == 15) x1000 x1001 x1002 x1003) else (spec_l01Src_point.j3 k x4 (x4 == 16) x1000 x1001 x1002 x1003)))))
def spec_l01Src_point.j3 : Nat → Int → Bool → List Int → Int → Int → Int → Option (Int × Int × Int × Int)
  | 0, _, _, _, _, _, _ => none
  | k + 1, x4, x110, x1000, x1001, x1002, x1003 => if x110 = true then ((spec_l01Src_n.f x1000 x1001 x1002 x1003 64).bind fun bt234 => (some (wrap64 (4096 + bt234.1), bt234.2.1, bt234.2.2.1, bt234.2.2.2))) else (if x4 = 17 then ((spec_l01Src_n.f x1000 x1001 x1002 x1003 64).bind fun bt238 => ((spec_l01Src_n.f x1000 bt238.2.1 bt238.2.2.1 bt238.2.2.2 5).bind fun bt242 => ((spec_l01Src_n.f x1000 bt242.2.1 bt242.2.2.1 bt242.2.2.2 26).bind fun bt246 => ((some (([wrap64 (7680 + bt238.1), wrap64 (7744 + bt242.1), wrap64 (7760 + bt246.1)] : List Int) : List Int)).bind fun y250 => ((spec_l01Src_n.f x1000 bt246.2.1 bt246.2.2.1 bt246.2.2.2 3).bind fun bt253 => (if 0 ≤ bt253.1 then (if bt253.1 < (y250.length : Int) then (some (rd y250 bt253.1, bt253.2.1, bt253.2.2.1, bt253.2.2.2)) else (none)) else (none))))))) else (if x4 = 18 then ((spec_l01Src_n.f x1000 x1001 x1002 x1003 12).bind fun bt258 => ((some (([wrap64 (7936 + bt258.1), 7953, 7954] : List Int) : List Int)).bind fun y262 => ((spec_l01Src_n.f x1000 bt258.2.1 bt258.2.2.1 bt258.2.2.2 3).bind fun bt265 => (if 0 ≤ bt265.1 then (if bt265.1 < (y262.length : Int) then (some (rd y262 bt265.1, bt265.2.1, bt265.2.2.1, bt265.2.2.2)) else (none)) else (none))))) else (if x4 = 19 then (spec_l01Src_point.j4 k x4 (x4 == 19) x1000 x1001 x1002 x1003) else (spec_l01Src_point.j4 k x4 (x4 == 20) x1000 x1001 x1002 x1003))))
def spec_l01Src_point.j4 : Nat → Int → Bool → List Int → Int → Int → Int → Option (Int × Int × Int × Int)
  | 0, _, _, _, _, _, _ => none
  | k + 1, x4, x142, x1000, x1001, x1002, x1003 => if x142 = true then ((spec_l01Src_n.f x1000 x1001 x1002 x1003 3).bind fun bt270 => ((spec_l01Src_n.f x1000 bt270.2.1 bt270.2.2.1 bt270.2.2.2 416).bind fun bt274 => (some (wrap64 ((wrap64 (8192 + (wrap64 (512 * bt270.1)))) + bt274.1), bt274.2.1, bt274.2.2.1, bt274.2.2.2)))) else (if x4 = 21 then ((spec_l01Src_n.f x1000 x1001 x1002 x1003 26).bind fun bt278 => ((spec_l01Src_n.f x1000 bt278.2.1 bt278.2.2.1 bt278.2.2.2 26).bind fun bt282 => ((spec_l01Src_n.f x1000 bt282.2.1 bt282.2.2.1 bt282.2.2.2 4).bind fun bt286 => ((some (([wrap64 (9728 + bt278.1), wrap64 (9984 + bt282.1), wrap64 (10032 + bt286.1)] : List Int) : List Int)).bind fun y290 => ((spec_l01Src_n.f x1000 bt286.2.1 bt286.2.2.1 bt286.2.2.2 3).bind fun bt293 => (if 0 ≤ bt293.1 then (if bt293.1 < (y290.length : Int) then (some (rd y290 bt293.1, bt293.2.1, bt293.2.2.1, bt293.2.2.2)) else (none)) else (none))))))) else (if x4 = 22 then ((spec_l01Src_n.f x1000 x1001 x1002 x1003 11172).bind fun bt298 => ((spec_l01Src_n.f x1000 bt298.2.1 bt298.2.2.1 bt298.2.2.2 2048).bind fun bt302 => ((some (([wrap64 (12288 + bt298.1), wrap64 (24576 + bt302.1)] : List Int) : List Int)).bind fun y306 => ((spec_l01Src_n.f x1000 bt302.2.1 bt302.2.2.1 bt302.2.2.2 2).bind fun bt309 => (if 0 ≤ bt309.1 then (if bt309.1 < (y306.length : Int) then (some (rd y306 bt309.1, bt309.2.1, bt309.2.2.1, bt309.2.2.2)) else (none)) else (none)))))) else ((spec_l01Src_n.f x1000 x1001 x1002 x1003 12288).bind fun bt314 => ((spec_l01Src_n.f x1000 bt314.2.1 bt314.2.2.1 bt314.2.2.2 4096).bind fun bt318 => ((spec_l01Src_n.f x1000 bt318.2.1 bt318.2.2.1 bt318.2.2.2 32768).bind fun bt322 => ((some (([65533, wrap64 (20480 + bt314.1), wrap64 (65536 + bt318.1), 1114111, 65535, bt322.1] : List Int) : List Int)).bind fun y326 => ((spec_l01Src_n.f x1000 bt322.2.1 bt322.2.2.1 bt322.2.2.2 6).bind fun bt329 => (if 0 ≤ bt329.1 then (if bt329.1 < (y326.length : Int) then (some (rd y326 bt329.1, bt329.2.1, bt329.2.2.1, bt329.2.2.2)) else (none)) else (none)))))))))
end
def spec_l01Src_point.f (k : Nat) (s0_0 : List Int) (s0_1 : Int) (s0_2 : Int) (s0_3 : Int) : Option (Int × Int × Int × Int) := (spec_l01Src_n.f s0_0 s0_1 s0_2 s0_3 24).bind fun bt122 => (if bt122.1 = 0 then (spec_l01Src_point.j0 k bt122.1 (bt122.1 == 0) s0_0 bt122.2.1 bt122.2.2.1 bt122.2.2.2) else (if bt122.1 = 1 then (spec_l01Src_point.j0 k bt122.1 (bt122.1 == 1) s0_0 bt122.2.1 bt122.2.2.1 bt122.2.2.2) else (spec_l01Src_point.j0 k bt122.1 (bt122.1 == 2) s0_0 bt122.2.1 bt122.2.2.1 bt122.2.2.2)))
theorem spec_l01Src_point.mono_l : ∀ k, (∀ y0 y1 y2 y3 y4 y5, LeO (spec_l01Src_point.j0 k y0 y1 y2 y3 y4 y5) (spec_l01Src_point.j0 (k + 1) y0 y1 y2 y3 y4 y5)) ∧ (∀ y0 y1 y2 y3 y4 y5, LeO (spec_l01Src_point.j1 k y0 y1 y2 y3 y4 y5) (spec_l01Src_point.j1 (k + 1) y0 y1 y2 y3 y4 y5)) ∧ (∀ y0 y1 y2 y3 y4 y5, LeO (spec_l01Src_point.j2 k y0 y1 y2 y3 y4 y5) (spec_l01Src_point.j2 (k + 1) y0 y1 y2 y3 y4 y5)) ∧ (∀ y0 y1 y2 y3 y4 y5, LeO (spec_l01Src_point.j3 k y0 y1 y2 y3 y4 y5) (spec_l01Src_point.j3 (k + 1) y0 y1 y2 y3 y4 y5)) ∧ (∀ y0 y1 y2 y3 y4 y5, LeO (spec_l01Src_point.j4 k y0 y1 y2 y3 y4 y5) (spec_l01Src_point.j4 (k + 1) y0 y1 y2 y3 y4 y5))
  | 0 => ⟨fun _ _ _ _ _ _ r h => by simp [spec_l01Src_point.j0] at h, fun _ _ _ _ _ _ r h => by simp [spec_l01Src_point.j1] at h, fun _ _ _ _ _ _ r h => by simp [spec_l01Src_point.j2] at h, fun _ _ _ _ _ _ r h => by simp [spec_l01Src_point.j3] at h, fun _ _ _ _ _ _ r h => by simp [spec_l01Src_point.j4] at h⟩
  | k + 1 => by
    obtain ⟨ih0, ih1, ih2, ih3, ih4⟩ := spec_l01Src_point.mono_l k
    refine ⟨?_, ?_, ?_, ?_, ?_⟩
    · intro y0 y1 y2 y3 y4 y5
      unfold spec_l01Src_point.j0
      repeat' first
      | (with_reducible exact ih0 _ _ _ _ _ _)
      | (with_reducible exact ih1 _ _ _ _ _ _)
      | (with_reducible exact ih2 _ _ _ _ _ _)
      | (with_reducible exact ih3 _ _ _ _ _ _)
      | (with_reducible exact ih4 _ _ _ _ _ _)
      | (with_reducible exact LeO.refl _)
      | (with_reducible exact LeO.none _)
      | (with_reducible refine LeO.ite ?_ ?_)
      | (with_reducible refine LeO.bind ?_ (fun _ => ?_))
      | exact ih0 _ _ _ _ _ _
      | exact ih1 _ _ _ _ _ _
      | exact ih2 _ _ _ _ _ _
      | exact ih3 _ _ _ _ _ _
      | exact ih4 _ _ _ _ _ _
      | exact LeO.none _
      | refine LeO.ite ?_ ?_
      | refine LeO.bind ?_ (fun _ => ?_)
    · intro y0 y1 y2 y3 y4 y5
      unfold spec_l01Src_point.j1
      repeat' first
      | (with_reducible exact ih0 _ _ _ _ _ _)
      | (with_reducible exact ih1 _ _ _ _ _ _)
      | (with_reducible exact ih2 _ _ _ _ _ _)
      | (with_reducible exact ih3 _ _ _ _ _ _)
      | (with_reducible exact ih4 _ _ _ _ _ _)
      | (with_reducible exact LeO.refl _)
      | (with_reducible exact LeO.none _)
      | (with_reducible refine LeO.ite ?_ ?_)
      | (with_reducible refine LeO.bind ?_ (fun _ => ?_))
      | exact ih0 _ _ _ _ _ _
      | exact ih1 _ _ _ _ _ _
      | exact ih2 _ _ _ _ _ _
      | exact ih3 _ _ _ _ _ _
      | exact ih4 _ _ _ _ _ _
      | exact LeO.none _
      | refine LeO.ite ?_ ?_
      | refine LeO.bind ?_ (fun _ => ?_)
    · intro y0 y1 y2 y3 y4 y5
      unfold spec_l01Src_point.j2
      repeat' first
      | (with_reducible exact ih0 _ _ _ _ _ _)
      | (with_reducible exact ih1 _ _ _ _ _ _)
      | (with_reducible exact ih2 _ _ _ _ _ _)
      | (with_reducible exact ih3 _ _ _ _ _ _)
      | (with_reducible exact ih4 _ _ _ _ _ _)
      | (with_reducible exact LeO.refl _)
      | (with_reducible exact LeO.none _)
      | (with_reducible refine LeO.ite ?_ ?_)
      | (with_reducible refine LeO.bind ?_ (fun _ => ?_))
      | exact ih0 _ _ _ _ _ _
      | exact ih1 _ _ _ _ _ _
      | exact ih2 _ _ _ _ _ _
      | exact ih3 _ _ _ _ _ _
      | exact ih4 _ _ _ _ _ _
      | exact LeO.none _
      | refine LeO.ite ?_ ?_
      | refine LeO.bind ?_ (fun _ => ?_)
    · intro y0 y1 y2 y3 y4 y5
      unfold spec_l01Src_point.j3
      repeat' first
      | (with_reducible exact ih0 _ _ _ _ _ _)
      | (with_reducible exact ih1 _ _ _ _ _ _)
      | (with_reducible exact ih2 _ _ _ _ _ _)
      | (with_reducible exact ih3 _ _ _ _ _ _)
      | (with_reducible exact ih4 _ _ _ _ _ _)
      | (with_reducible exact LeO.refl _)
      | (with_reducible exact LeO.none _)
      | (with_reducible refine LeO.ite ?_ ?_)
      | (with_reducible refine LeO.bind ?_ (fun _ => ?_))
      | exact ih0 _ _ _ _ _ _
      | exact ih1 _ _ _ _ _ _
      | exact ih2 _ _ _ _ _ _
      | exact ih3 _ _ _ _ _ _
      | exact ih4 _ _ _ _ _ _
      | exact LeO.none _
      | refine LeO.ite ?_ ?_
      | refine LeO.bind ?_ (fun _ => ?_)
    · intro y0 y1 y2 y3 y4 y5
      unfold spec_l01Src_point.j4
      repeat' first
      | (with_reducible exact ih0 _ _ _ _ _ _)
      | (with_reducible exact ih1 _ _ _ _ _ _)
      | (with_reducible exact ih2 _ _ _ _ _ _)
      | (with_reducible exact ih3 _ _ _ _ _ _)
      | (with_reducible exact ih4 _ _ _ _ _ _)
      | (with_reducible exact LeO.refl _)
      | (with_reducible exact LeO.none _)
      | (with_reducible refine LeO.ite ?_ ?_)
      | (with_reducible refine LeO.bind ?_ (fun _ => ?_))
      | exact ih0 _ _ _ _ _ _
      | exact ih1 _ _ _ _ _ _
      | exact ih2 _ _ _ _ _ _
      | exact ih3 _ _ _ _ _ _
      | exact ih4 _ _ _ _ _ _
      | exact LeO.none _
      | refine LeO.ite ?_ ?_
      | refine LeO.bind ?_ (fun _ => ?_)
theorem spec_l01Src_point.mono : ∀ a0 a1 a2 a3 k, LeO (spec_l01Src_point.f k a0 a1 a2 a3) (spec_l01Src_point.f (k + 1) a0 a1 a2 a3) := by
  intro a0 a1 a2 a3 k
  obtain ⟨ih0, ih1, ih2, ih3, ih4⟩ := spec_l01Src_point.mono_l k
  unfold spec_l01Src_point.f
  repeat' first
      | (with_reducible exact ih0 _ _ _ _ _ _)
      | (with_reducible exact ih1 _ _ _ _ _ _)
      | (with_reducible exact ih2 _ _ _ _ _ _)
      | (with_reducible exact ih3 _ _ _ _ _ _)
      | (with_reducible exact ih4 _ _ _ _ _ _)
      | (with_reducible exact LeO.refl _)
      | (with_reducible exact LeO.none _)
      | (with_reducible refine LeO.ite ?_ ?_)
      | (with_reducible refine LeO.bind ?_ (fun _ => ?_))
      | exact ih0 _ _ _ _ _ _
      | exact ih1 _ _ _ _ _ _
      | exact ih2 _ _ _ _ _ _
      | exact ih3 _ _ _ _ _ _
      | exact ih4 _ _ _ _ _ _
      | exact LeO.none _
      | refine LeO.ite ?_ ?_
      | refine LeO.bind ?_ (fun _ => ?_)
set_option maxHeartbeats 8000000 in
set_option maxRecDepth 100000 in
theorem spec_l01Src_point.calls (k : Nat) (g : Nat) (s0_0 : List Int) (s0_1 : Int) (s0_2 : Int) (s0_3 : Int) (r1 : Int) (r2 : Int) (r3 : Int) (r4 : Int) (w0 w : World) (hI : IsS84 w0 w g s0_0 s0_1 s0_2 s0_3) (hB : Below w0.heap.size w0 w) (h : spec_l01Src_point.f k s0_0 s0_1 s0_2 s0_3 = some (r1, r2, r3, r4)) :
    Calls Tryd.prog 99 #[.pointer (some ⟨g, 0, none⟩)] w fun e w' => e = .returned (.int .i64 r1) ∧ IsS84 w0 w' g s0_0 r2 r3 r4 ∧ Below w0.heap.size w0 w' ∧ KeepBut w w' g none := by
  have HI0 := Aside0.mk hI
  have HK := Aside0.mk (KeepBut.refl w g none)
  have HL := Aside0.mk hB.size
  clear hI
  have HW0 := Aside0.mk hB.size
  have HB := Aside0.mk hB
  clear hB
  have H : ((spec_l01Src_n.f s0_0 s0_1 s0_2 s0_3 24).bind fun bt122 => (if bt122.1 = 0 then (spec_l01Src_point.j0 k bt122.1 (bt122.1 == 0) s0_0 bt122.2.1 bt122.2.2.1 bt122.2.2.2) else (if bt122.1 = 1 then (spec_l01Src_point.j0 k bt122.1 (bt122.1 == 1) s0_0 bt122.2.1 bt122.2.2.1 bt122.2.2.2) else (spec_l01Src_point.j0 k bt122.1 (bt122.1 == 2) s0_0 bt122.2.1 bt122.2.2.1 bt122.2.2.2)))) = some (r1, r2, r3, r4) := h
  clear h
  replace H := Option.bind_eq_some_iff.mp H
  obtain ⟨⟨t122, t123, t124, t125⟩, A20, H⟩ := H
  replace H : (if t122 = 0 then (spec_l01Src_point.j0 k t122 (t122 == 0) s0_0 t123 t124 t125) else (if t122 = 1 then (spec_l01Src_point.j0 k t122 (t122 == 1) s0_0 t123 t124 t125) else (spec_l01Src_point.j0 k t122 (t122 == 2) s0_0 t123 t124 t125))) = some (r1, r2, r3, r4) := H
  have A2 := Aside0.mk A20
  clear A20
  have HC3 := Aside0.mk H
  clear H
  go_enter Tryd.func99, Tryd.ntmps99
  go_upto_if 5 with (first | ((with_reducible refine gate_callee (f := 67) rfl ?_); refine goesL_ (some 4) rfl rfl Tryd.func67 (by kernel_rfl) rfl #[.pointer (some ⟨g, 0, none⟩), .int .i64 24] rfl (by (try simp only [List.map_toArray, List.map_cons, List.map_nil]); first | done | rfl | (simp only [List.length_drop, List.length_take]; rfl)) ?_; (with_reducible refine (spec_l01Src_n.calls g s0_0 s0_1 s0_2 s0_3 24 t122 t123 t124 t125 w0 _ ?side1 ?side2 A2.out).mono ?_); (case side1 => repeat (first | (with_reducible first | exact HI0.out | apply IsS84.alloc | apply IsS84.drewN | apply IsS84.drew | apply IsS84.set_1 | apply IsS84.set_2 | apply IsS84.set_3) | exact HI0.out)); (case side2 => repeat (first | (with_reducible first | exact HB.out | apply below_alloc | apply pw_below_drewN | apply below_drew1 | refine below_set ?_ (IsS84.ge HI0.out)) | exact HB.out)); rintro e w4 ⟨rfl, hi, hb, hk⟩; refine ⟨_, rfl, ?_⟩; have n0_ := Aside0.mk (KeepBut.trans (by repeat (first | (with_reducible first | exact HK.out | apply KeepBut.set_ | apply keep_drewN | apply keep_drew | apply keep_alloc) | exact HK.out)) hk (.inl rfl)); have n1_ := Aside0.mk (hb); have n2_ := Aside0.mk (hi); clear HK; clear HB; clear HI0; have HK := n0_; have HB := n1_; have HI0 := n2_; clear n0_ n1_ n2_; (try clear hb); (try clear hb2); (try clear hk); (try clear hi)))
  (try simp only [Act.put, List.setIfInBounds_toArray, List.set_cons_zero, List.set_cons_succ])
  go_cut [5] (fun v5 wc => ∃ (kq : Nat) (x5_2 : Bool), v5 = .bool x5_2 ∧ Aside0 (spec_l01Src_point.j0 kq t122 x5_2 s0_0 t123 t124 t125 = some (r1, r2, r3, r4)) ∧ Aside0 (kq ≤ k) ∧ Aside0 (IsS84 w0 wc g s0_0 t123 t124 t125) ∧ Aside0 (KeepBut w wc g none) ∧ Aside0 (Below w0.heap.size w0 wc))
  case first =>
    have H := HC3.out
    clear HC3
    by_cases c5 : t122 = 0
    · rw [if_pos c5] at H
      have c5b0 : (t122 == 0) = true := beq_iff_eq.mpr c5
      have c5b1 : (t122 != 0) = false := bne_eq_false_iff_eq.mpr c5
      clear c5
      (first | rw [c5b0] | (simp only [i64_w, i32_w]; rw [c5b0]) | skip)
      have H' := Aside0.mk H
      clear H
      go_wp2
      go_meet
      case rel => exact ⟨_, ((t122 == 0)), (by first | rfl | (simp; done) | (simp [*]; done)), H', ⟨by first | omega | exact Nat.le_refl _⟩, ⟨by repeat (first | (with_reducible first | exact HI0.out | apply IsS84.alloc | apply IsS84.drewN | apply IsS84.drew | apply IsS84.set_1 | apply IsS84.set_2 | apply IsS84.set_3) | exact HI0.out)⟩, ⟨by repeat (first | (with_reducible first | exact HK.out | apply KeepBut.set_ | apply keep_drewN | apply keep_drew | apply keep_alloc) | exact HK.out)⟩, ⟨by repeat (first | (with_reducible first | exact HB.out | apply below_alloc | apply pw_below_drewN | apply below_drew1 | refine below_set ?_ (IsS84.ge HI0.out)) | exact HB.out)⟩⟩
    · rw [if_neg c5] at H
      have c5b0 : (t122 == 0) = false := beq_eq_false_iff_ne.mpr c5
      have c5b1 : (t122 != 0) = true := bne_iff_ne.mpr c5
      (first | rw [c5b0] | (simp only [i64_w, i32_w]; rw [c5b0]) | skip)
      by_cases c6 : t122 = 1
      · rw [if_pos c6] at H
        have c6b0 : (t122 == 1) = true := beq_iff_eq.mpr c6
        have c6b1 : (t122 != 1) = false := bne_eq_false_iff_eq.mpr c6
        clear c6
        have H' := Aside0.mk H
        clear H
        go_wp2
        go_meet
        case rel => exact ⟨_, ((t122 == 1)), (by first | rfl | (simp; done) | (simp [*]; done)), H', ⟨by first | omega | exact Nat.le_refl _⟩, ⟨by repeat (first | (with_reducible first | exact HI0.out | apply IsS84.alloc | apply IsS84.drewN | apply IsS84.drew | apply IsS84.set_1 | apply IsS84.set_2 | apply IsS84.set_3) | exact HI0.out)⟩, ⟨by repeat (first | (with_reducible first | exact HK.out | apply KeepBut.set_ | apply keep_drewN | apply keep_drew | apply keep_alloc) | exact HK.out)⟩, ⟨by repeat (first | (with_reducible first | exact HB.out | apply below_alloc | apply pw_below_drewN | apply below_drew1 | refine below_set ?_ (IsS84.ge HI0.out)) | exact HB.out)⟩⟩
      · rw [if_neg c6] at H
        have c6b0 : (t122 == 1) = false := beq_eq_false_iff_ne.mpr c6
        have c6b1 : (t122 != 1) = true := bne_iff_ne.mpr c6
        have H' := Aside0.mk H
        clear H
        go_wp2
        go_meet
        case rel => exact ⟨_, ((t122 == 2)), (by first | rfl | (simp; done) | (simp [*]; done)), H', ⟨by first | omega | exact Nat.le_refl _⟩, ⟨by repeat (first | (with_reducible first | exact HI0.out | apply IsS84.alloc | apply IsS84.drewN | apply IsS84.drew | apply IsS84.set_1 | apply IsS84.set_2 | apply IsS84.set_3) | exact HI0.out)⟩, ⟨by repeat (first | (with_reducible first | exact HK.out | apply KeepBut.set_ | apply keep_drewN | apply keep_drew | apply keep_alloc) | exact HK.out)⟩, ⟨by repeat (first | (with_reducible first | exact HB.out | apply below_alloc | apply pw_below_drewN | apply below_drew1 | refine below_set ?_ (IsS84.ge HI0.out)) | exact HB.out)⟩⟩
  case rest =>
    clear HC3
    try clear p2
    try clear c5
    try clear c5b0
    try clear c5b1
    try clear c6
    try clear c6b0
    try clear c6b1
    obtain ⟨kq, x5_2, rfl, HA, HJ2, HI0, HK, HB⟩ := hcut
    cases kq with
    | zero => exact absurd HA.out (by simp [spec_l01Src_point.j0])
    | succ kj2 =>
      have H := HA.out
      clear HA
      simp only [spec_l01Src_point.j0] at H
      by_cases c7 : x5_2 = true
      · subst c7
        have H1 : ((spec_l01Src_n.f s0_0 t123 t124 t125 26).bind fun bt126 => (some (wrap64 (97 + bt126.1), bt126.2.1, bt126.2.2.1, bt126.2.2.2))) = some (r1, r2, r3, r4) := by rw [if_pos rfl] at H; exact H
        clear H
        have H := H1
        clear H1
        replace H := Option.bind_eq_some_iff.mp H
        obtain ⟨⟨t126, t127, t128, t129⟩, A80, H⟩ := H
        replace H : (some (wrap64 (97 + t126), t127, t128, t129)) = some (r1, r2, r3, r4) := H
        have A8 := Aside0.mk A80
        clear A80
        simp only [Option.some.injEq, Prod.mk.injEq] at H
        obtain ⟨rfl, rfl, rfl, rfl⟩ := H
        go_wp2_with (first | ((with_reducible refine gate_callee (f := 67) rfl ?_); refine goesL_ (some 10) rfl rfl Tryd.func67 (by kernel_rfl) rfl #[.pointer (some ⟨g, 0, none⟩), .int .i64 26] rfl (by (try simp only [List.map_toArray, List.map_cons, List.map_nil]); first | done | rfl | (simp only [List.length_drop, List.length_take]; rfl)) ?_; (with_reducible refine (spec_l01Src_n.calls g s0_0 t123 t124 t125 26 t126 t127 t128 t129 w0 _ ?side1 ?side2 A8.out).mono ?_); (case side1 => repeat (first | (with_reducible first | exact HI0.out | apply IsS84.alloc | apply IsS84.drewN | apply IsS84.drew | apply IsS84.set_1 | apply IsS84.set_2 | apply IsS84.set_3) | exact HI0.out)); (case side2 => repeat (first | (with_reducible first | exact HB.out | apply below_alloc | apply pw_below_drewN | apply below_drew1 | refine below_set ?_ (IsS84.ge HI0.out)) | exact HB.out)); rintro e w9 ⟨rfl, hi, hb, hk⟩; refine ⟨_, rfl, ?_⟩; have n0_ := Aside0.mk (KeepBut.trans (by repeat (first | (with_reducible first | exact HK.out | apply KeepBut.set_ | apply keep_drewN | apply keep_drew | apply keep_alloc) | exact HK.out)) hk (.inl rfl)); have n1_ := Aside0.mk (hb); have n2_ := Aside0.mk (hi); clear HK; clear HB; clear HI0; have HK := n0_; have HB := n1_; have HI0 := n2_; clear n0_ n1_ n2_; (try clear hb); (try clear hb2); (try clear hk); (try clear hi)))
        go_ret
        exact ⟨by first | rfl | (simp [errW_none, errW_some] <;> rfl) | (simp [*, errW_none, errW_some] <;> rfl), by repeat (first | (with_reducible first | exact HI0.out | apply IsS84.alloc | apply IsS84.drewN | apply IsS84.drew | apply IsS84.set_1 | apply IsS84.set_2 | apply IsS84.set_3) | exact HI0.out), by repeat (first | (with_reducible first | exact HB.out | apply below_alloc | apply pw_below_drewN | apply below_drew1 | refine below_set ?_ (IsS84.ge HI0.out)) | exact HB.out), by repeat (first | (with_reducible first | exact HK.out | apply KeepBut.set_ | apply keep_drewN | apply keep_drew | apply keep_alloc) | exact HK.out)⟩
      · replace c7 := Bool.eq_false_iff.mpr c7
        subst c7
        have H1 : (if t122 = 3 then ((spec_l01Src_n.f s0_0 t123 t124 t125 26).bind fun bt130 => (some (wrap64 (65 + bt130.1), bt130.2.1, bt130.2.2.1, bt130.2.2.2))) else (if t122 = 4 then ((some (([32, 32, 160, 10, 9, 13, 8064, 173] : List Int) : List Int)).bind fun y134 => ((spec_l01Src_n.f s0_0 t123 t124 t125 8).bind fun bt137 => (if 0 ≤ bt137.1 then (if bt137.1 < (y134.length : Int) then (some (rd y134 bt137.1, bt137.2.1, bt137.2.2.1, bt137.2.2.2)) else (none)) else (none)))) else (if t122 = 5 then ((spec_l01Src_n.f s0_0 t123 t124 t125 10).bind fun bt142 => ((spec_l01Src_n.f s0_0 bt142.2.1 bt142.2.2.1 bt142.2.2.2 10).bind fun bt146 => ((spec_l01Src_n.f s0_0 bt146.2.1 bt146.2.2.1 bt146.2.2.2 10).bind fun bt150 => ((spec_l01Src_n.f s0_0 bt150.2.1 bt150.2.2.1 bt150.2.2.2 10).bind fun bt154 => ((some (([wrap64 (48 + bt142.1), wrap64 (592 + bt146.1), wrap64 (1360 + bt150.1), wrap64 (10016 + bt154.1)] : List Int) : List Int)).bind fun y158 => ((spec_l01Src_n.f s0_0 bt154.2.1 bt154.2.2.1 bt154.2.2.2 4).bind fun bt161 => (if 0 ≤ bt161.1 then (if bt161.1 < (y158.length : Int) then (some (rd y158 bt161.1, bt161.2.1, bt161.2.2.1, bt161.2.2.2)) else (none)) else (none)))))))) else (if t122 = 6 then ((some (([46, 44, 33, 63, 39, 40, 41, 91, 93, 45, 58, 95] : List Int) : List Int)).bind fun y166 => ((spec_l01Src_n.f s0_0 t123 t124 t125 12).bind fun bt169 => (if 0 ≤ bt169.1 then (if bt169.1 < (y166.length : Int) then (some (rd y166 bt169.1, bt169.2.1, bt169.2.2.1, bt169.2.2.2)) else (none)) else (none)))) else (if t122 = 7 then (spec_l01Src_point.j1 kj2 t122 (t122 == 7) s0_0 t123 t124 t125) else (spec_l01Src_point.j1 kj2 t122 (t122 == 8) s0_0 t123 t124 t125)))))) = some (r1, r2, r3, r4) := by rw [if_neg (show ¬ (false = true) by decide)] at H; exact H
        clear H
        have H := H1
        clear H1
        by_cases c10 : t122 = 3
        · rw [if_pos c10] at H
          have c10b0 : (t122 == 3) = true := beq_iff_eq.mpr c10
          have c10b1 : (t122 != 3) = false := bne_eq_false_iff_eq.mpr c10
          clear c10
          replace H := Option.bind_eq_some_iff.mp H
          obtain ⟨⟨t130, t131, t132, t133⟩, A110, H⟩ := H
          replace H : (some (wrap64 (65 + t130), t131, t132, t133)) = some (r1, r2, r3, r4) := H
          have A11 := Aside0.mk A110
          clear A110
          simp only [Option.some.injEq, Prod.mk.injEq] at H
          obtain ⟨rfl, rfl, rfl, rfl⟩ := H
          go_wp2_with (first | ((with_reducible refine gate_callee (f := 67) rfl ?_); refine goesL_ (some 15) rfl rfl Tryd.func67 (by kernel_rfl) rfl #[.pointer (some ⟨g, 0, none⟩), .int .i64 26] rfl (by (try simp only [List.map_toArray, List.map_cons, List.map_nil]); first | done | rfl | (simp only [List.length_drop, List.length_take]; rfl)) ?_; (with_reducible refine (spec_l01Src_n.calls g s0_0 t123 t124 t125 26 t130 t131 t132 t133 w0 _ ?side1 ?side2 A11.out).mono ?_); (case side1 => repeat (first | (with_reducible first | exact HI0.out | apply IsS84.alloc | apply IsS84.drewN | apply IsS84.drew | apply IsS84.set_1 | apply IsS84.set_2 | apply IsS84.set_3) | exact HI0.out)); (case side2 => repeat (first | (with_reducible first | exact HB.out | apply below_alloc | apply pw_below_drewN | apply below_drew1 | refine below_set ?_ (IsS84.ge HI0.out)) | exact HB.out)); rintro e w12 ⟨rfl, hi, hb, hk⟩; refine ⟨_, rfl, ?_⟩; have n0_ := Aside0.mk (KeepBut.trans (by repeat (first | (with_reducible first | exact HK.out | apply KeepBut.set_ | apply keep_drewN | apply keep_drew | apply keep_alloc) | exact HK.out)) hk (.inl rfl)); have n1_ := Aside0.mk (hb); have n2_ := Aside0.mk (hi); clear HK; clear HB; clear HI0; have HK := n0_; have HB := n1_; have HI0 := n2_; clear n0_ n1_ n2_; (try clear hb); (try clear hb2); (try clear hk); (try clear hi)))
          go_ret
          exact ⟨by first | rfl | (simp [errW_none, errW_some] <;> rfl) | (simp [*, errW_none, errW_some] <;> rfl), by repeat (first | (with_reducible first | exact HI0.out | apply IsS84.alloc | apply IsS84.drewN | apply IsS84.drew | apply IsS84.set_1 | apply IsS84.set_2 | apply IsS84.set_3) | exact HI0.out), by repeat (first | (with_reducible first | exact HB.out | apply below_alloc | apply pw_below_drewN | apply below_drew1 | refine below_set ?_ (IsS84.ge HI0.out)) | exact HB.out), by repeat (first | (with_reducible first | exact HK.out | apply KeepBut.set_ | apply keep_drewN | apply keep_drew | apply keep_alloc) | exact HK.out)⟩
        · rw [if_neg c10] at H
          have c10b0 : (t122 == 3) = false := beq_eq_false_iff_ne.mpr c10
          have c10b1 : (t122 != 3) = true := bne_iff_ne.mpr c10
          by_cases c13 : t122 = 4
          · rw [if_pos c13] at H
            have c13b0 : (t122 == 4) = true := beq_iff_eq.mpr c13
            have c13b1 : (t122 != 4) = false := bne_eq_false_iff_eq.mpr c13
            clear c13
            obtain ⟨y134, hy134⟩ : ∃ y_ : List Int, y_ = (([32, 32, 160, 10, 9, 13, 8064, 173] : List Int)) := ⟨_, rfl⟩
            replace H : ((spec_l01Src_n.f s0_0 t123 t124 t125 8).bind fun bt137 => (if 0 ≤ bt137.1 then (if bt137.1 < (y134.length : Int) then (some (rd y134 bt137.1, bt137.2.1, bt137.2.2.1, bt137.2.2.2)) else (none)) else (none))) = some (r1, r2, r3, r4) := by first | (rw [hy134]; with_reducible exact H) | (have H2_ := (Option.bind_some _ _).symm.trans H; rw [hy134]; with_reducible exact H2_) | (have H2_ := (Option.bind_some _ _).symm.trans H; with_reducible exact H2_) | with_reducible exact H | (rw [hy134]; exact H) | exact H
            have Ny134 := Aside0.mk hy134
            clear hy134
            replace H := Option.bind_eq_some_iff.mp H
            obtain ⟨⟨t137, t138, t139, t140⟩, A140, H⟩ := H
            replace H : (if 0 ≤ t137 then (if t137 < (y134.length : Int) then (some (rd y134 t137, t138, t139, t140)) else (none)) else (none)) = some (r1, r2, r3, r4) := H
            have A14 := Aside0.mk A140
            clear A140
            by_cases c15 : 0 ≤ t137
            · rw [if_pos c15] at H
              have c15b0 : decide (0 ≤ t137) = true := decide_eq_true c15
              clear c15
              by_cases c16 : t137 < (y134.length : Int)
              · rw [if_pos c16] at H
                have c16b0 : decide (t137 < (y134.length : Int)) = true := decide_eq_true c16
                clear c16
                simp only [Option.some.injEq, Prod.mk.injEq] at H
                obtain ⟨rfl, rfl, rfl, rfl⟩ := H
                go_wp2_with (first | ((with_reducible refine gate_dst (N := 19) rfl ?_); refine Kd.R_lit (Kd.int .i64) _ 2 ?hg (N := 19) ?hd (xs := ([32, 32, 160, 10, 9, 13, 8064, 173] : List Int)) (inner := [.int .i64 32, .int .i64 32, .int .i64 160, .int .i64 10, .int .i64 9, .int .i64 13, .int .i64 8064, .int .i64 173]) (ok := fun _ => True) (okp := fun _ => True) ?hr ?hp (fun _ hk => hk) trivial (Below.refl _ _) (Nat.le_refl _) (by simp) ?_; (case hd => rfl); (case hg => rfl); (case hr => first | (go_simp; done) | (go_simp; rfl)); (case hp => exact (Reps.one (show Kd.M (Kd.int .i64) _ _ _ 32 [.int .i64 32] from rfl) (Reps.one (show Kd.M (Kd.int .i64) _ _ _ 32 [.int .i64 32] from rfl) (Reps.one (show Kd.M (Kd.int .i64) _ _ _ 160 [.int .i64 160] from rfl) (Reps.one (show Kd.M (Kd.int .i64) _ _ _ 10 [.int .i64 10] from rfl) (Reps.one (show Kd.M (Kd.int .i64) _ _ _ 9 [.int .i64 9] from rfl) (Reps.one (show Kd.M (Kd.int .i64) _ _ _ 13 [.int .i64 13] from rfl) (Reps.one (show Kd.M (Kd.int .i64) _ _ _ 8064 [.int .i64 8064] from rfl) (Reps.one (show Kd.M (Kd.int .i64) _ _ _ 173 [.int .i64 173] from rfl) (Reps.none _ _)))))))))); intro v135 w17 ho18 hb hg_ hnew_; clear hg_ hnew_; (first | rw [← Ny134.out] at ho18 | (simp only [Int.reduceToNat] at ho18; rw [← Ny134.out] at ho18)); have n0_ := Aside0.mk (Kd.R_lower ho18 (keep_size (w := w) (g := g) (row := none) (by repeat (first | (with_reducible first | exact HK.out | apply KeepBut.set_ | apply keep_drewN | apply keep_drew | apply keep_alloc) | exact HK.out)))); have n1_ := Aside0.mk (IsS84.below (by repeat (first | (with_reducible first | exact HI0.out | apply IsS84.alloc | apply IsS84.drewN | apply IsS84.drew | apply IsS84.set_1 | apply IsS84.set_2 | apply IsS84.set_3) | exact HI0.out)) hb); have n2_ := Aside0.mk (KeepBut.trans (by repeat (first | (with_reducible first | exact HK.out | apply KeepBut.set_ | apply keep_drewN | apply keep_drew | apply keep_alloc) | exact HK.out)) (KeepBut.of_below hb g none) (.inl rfl)); have n3_ := Aside0.mk (below_step (by repeat (first | (with_reducible first | exact HB.out | apply below_alloc | apply pw_below_drewN | apply below_drew1 | refine below_set ?_ (IsS84.ge HI0.out)) | exact HB.out)) hb); clear HI0; clear HK; clear HB; have HO136 := n0_; have HI0 := n1_; have HK := n2_; have HB := n3_; clear n0_ n1_ n2_ n3_; clear hb ho18) | ((with_reducible refine gate_callee (f := 67) rfl ?_); refine goesL_ (some 21) rfl rfl Tryd.func67 (by kernel_rfl) rfl #[.pointer (some ⟨g, 0, none⟩), .int .i64 8] rfl (by (try simp only [List.map_toArray, List.map_cons, List.map_nil]); first | done | rfl | (simp only [List.length_drop, List.length_take]; rfl)) ?_; (with_reducible refine (spec_l01Src_n.calls g s0_0 t123 t124 t125 8 t137 t138 t139 t140 w0 _ ?side1 ?side2 A14.out).mono ?_); (case side1 => repeat (first | (with_reducible first | exact HI0.out | apply IsS84.alloc | apply IsS84.drewN | apply IsS84.drew | apply IsS84.set_1 | apply IsS84.set_2 | apply IsS84.set_3) | exact HI0.out)); (case side2 => repeat (first | (with_reducible first | exact HB.out | apply below_alloc | apply pw_below_drewN | apply below_drew1 | refine below_set ?_ (IsS84.ge HI0.out)) | exact HB.out)); rintro e w19 ⟨rfl, hi, hb, hk⟩; refine ⟨_, rfl, ?_⟩; have n0_ := Aside0.mk (Kd.R_mono (Kd.R_keep (IsS84.apart (show IsS84 w0 _ g s0_0 t123 t124 t125 from by repeat (first | (with_reducible first | exact HI0.out | apply IsS84.alloc | apply IsS84.drewN | apply IsS84.drew | apply IsS84.set_1 | apply IsS84.set_2 | apply IsS84.set_3) | exact HI0.out)) (by (with_reducible repeat (first | apply Kd.R_alloc | apply Kd.R_drewN | apply Kd.R_drew)); exact HO136.out) (by decide)) hk (fun _ h => h.2)) (fun _ h => h.1)); have n1_ := Aside0.mk (KeepBut.trans (by repeat (first | (with_reducible first | exact HK.out | apply KeepBut.set_ | apply keep_drewN | apply keep_drew | apply keep_alloc) | exact HK.out)) hk (.inl rfl)); have n2_ := Aside0.mk (hb); have n3_ := Aside0.mk (hi); clear HO136; clear HK; clear HB; clear HI0; have HO136 := n0_; have HK := n1_; have HB := n2_; have HI0 := n3_; clear n0_ n1_ n2_ n3_; (try clear hb); (try clear hb2); (try clear hk); (try clear hi); obtain ⟨Ao20, co20, eo20⟩ := Kd.R_slice HO136.out; subst eo20; have p141 : 0 ≤ (t137 : Int) := of_decide_eq_true (by first | (with_reducible assumption) | assumption); have q141 : t137 < (y134.length : Int) := of_decide_eq_true (by first | (with_reducible assumption) | assumption); obtain ⟨ad141, e141, hx141_0⟩ := Kd.at_int (Kd.R_reads' HO136.out).2.2 t137 p141 q141; cases e141; replace p141 := eq_true p141; replace q141 := eq_true q141))
                go_ret
                exact ⟨by first | rfl | (simp [errW_none, errW_some] <;> rfl) | (simp [*, errW_none, errW_some] <;> rfl), by repeat (first | (with_reducible first | exact HI0.out | apply IsS84.alloc | apply IsS84.drewN | apply IsS84.drew | apply IsS84.set_1 | apply IsS84.set_2 | apply IsS84.set_3) | exact HI0.out), by repeat (first | (with_reducible first | exact HB.out | apply below_alloc | apply pw_below_drewN | apply below_drew1 | refine below_set ?_ (IsS84.ge HI0.out)) | exact HB.out), by repeat (first | (with_reducible first | exact HK.out | apply KeepBut.set_ | apply keep_drewN | apply keep_drew | apply keep_alloc) | exact HK.out)⟩
              · rw [if_neg c16] at H
                exact absurd H (by simp)
            · rw [if_neg c15] at H
              exact absurd H (by simp)
          · rw [if_neg c13] at H
            have c13b0 : (t122 == 4) = false := beq_eq_false_iff_ne.mpr c13
            have c13b1 : (t122 != 4) = true := bne_iff_ne.mpr c13
            by_cases c21 : t122 = 5
            · rw [if_pos c21] at H
              have c21b0 : (t122 == 5) = true := beq_iff_eq.mpr c21
              have c21b1 : (t122 != 5) = false := bne_eq_false_iff_eq.mpr c21
              clear c21
              replace H := Option.bind_eq_some_iff.mp H
              obtain ⟨⟨t142, t143, t144, t145⟩, A220, H⟩ := H
              replace H : ((spec_l01Src_n.f s0_0 t143 t144 t145 10).bind fun bt146 => ((spec_l01Src_n.f s0_0 bt146.2.1 bt146.2.2.1 bt146.2.2.2 10).bind fun bt150 => ((spec_l01Src_n.f s0_0 bt150.2.1 bt150.2.2.1 bt150.2.2.2 10).bind fun bt154 => ((some (([wrap64 (48 + t142), wrap64 (592 + bt146.1), wrap64 (1360 + bt150.1), wrap64 (10016 + bt154.1)] : List Int) : List Int)).bind fun y158 => ((spec_l01Src_n.f s0_0 bt154.2.1 bt154.2.2.1 bt154.2.2.2 4).bind fun bt161 => (if 0 ≤ bt161.1 then (if bt161.1 < (y158.length : Int) then (some (rd y158 bt161.1, bt161.2.1, bt161.2.2.1, bt161.2.2.2)) else (none)) else (none))))))) = some (r1, r2, r3, r4) := H
              have A22 := Aside0.mk A220
              clear A220
              replace H := Option.bind_eq_some_iff.mp H
              obtain ⟨⟨t146, t147, t148, t149⟩, A230, H⟩ := H
              replace H : ((spec_l01Src_n.f s0_0 t147 t148 t149 10).bind fun bt150 => ((spec_l01Src_n.f s0_0 bt150.2.1 bt150.2.2.1 bt150.2.2.2 10).bind fun bt154 => ((some (([wrap64 (48 + t142), wrap64 (592 + t146), wrap64 (1360 + bt150.1), wrap64 (10016 + bt154.1)] : List Int) : List Int)).bind fun y158 => ((spec_l01Src_n.f s0_0 bt154.2.1 bt154.2.2.1 bt154.2.2.2 4).bind fun bt161 => (if 0 ≤ bt161.1 then (if bt161.1 < (y158.length : Int) then (some (rd y158 bt161.1, bt161.2.1, bt161.2.2.1, bt161.2.2.2)) else (none)) else (none)))))) = some (r1, r2, r3, r4) := H
              have A23 := Aside0.mk A230
              clear A230
              replace H := Option.bind_eq_some_iff.mp H
              obtain ⟨⟨t150, t151, t152, t153⟩, A240, H⟩ := H
              replace H : ((spec_l01Src_n.f s0_0 t151 t152 t153 10).bind fun bt154 => ((some (([wrap64 (48 + t142), wrap64 (592 + t146), wrap64 (1360 + t150), wrap64 (10016 + bt154.1)] : List Int) : List Int)).bind fun y158 => ((spec_l01Src_n.f s0_0 bt154.2.1 bt154.2.2.1 bt154.2.2.2 4).bind fun bt161 => (if 0 ≤ bt161.1 then (if bt161.1 < (y158.length : Int) then (some (rd y158 bt161.1, bt161.2.1, bt161.2.2.1, bt161.2.2.2)) else (none)) else (none))))) = some (r1, r2, r3, r4) := H
              have A24 := Aside0.mk A240
              clear A240
              replace H := Option.bind_eq_some_iff.mp H
              obtain ⟨⟨t154, t155, t156, t157⟩, A250, H⟩ := H
              replace H : ((some (([wrap64 (48 + t142), wrap64 (592 + t146), wrap64 (1360 + t150), wrap64 (10016 + t154)] : List Int) : List Int)).bind fun y158 => ((spec_l01Src_n.f s0_0 t155 t156 t157 4).bind fun bt161 => (if 0 ≤ bt161.1 then (if bt161.1 < (y158.length : Int) then (some (rd y158 bt161.1, bt161.2.1, bt161.2.2.1, bt161.2.2.2)) else (none)) else (none)))) = some (r1, r2, r3, r4) := H
              have A25 := Aside0.mk A250
              clear A250
              obtain ⟨y158, hy158⟩ : ∃ y_ : List Int, y_ = (([wrap64 (48 + t142), wrap64 (592 + t146), wrap64 (1360 + t150), wrap64 (10016 + t154)] : List Int)) := ⟨_, rfl⟩
              replace H : ((spec_l01Src_n.f s0_0 t155 t156 t157 4).bind fun bt161 => (if 0 ≤ bt161.1 then (if bt161.1 < (y158.length : Int) then (some (rd y158 bt161.1, bt161.2.1, bt161.2.2.1, bt161.2.2.2)) else (none)) else (none))) = some (r1, r2, r3, r4) := by first | (rw [hy158]; with_reducible exact H) | (have H2_ := (Option.bind_some _ _).symm.trans H; rw [hy158]; with_reducible exact H2_) | (have H2_ := (Option.bind_some _ _).symm.trans H; with_reducible exact H2_) | with_reducible exact H | (rw [hy158]; exact H) | exact H
              have Ny158 := Aside0.mk hy158
              clear hy158
              replace H := Option.bind_eq_some_iff.mp H
              obtain ⟨⟨t161, t162, t163, t164⟩, A260, H⟩ := H
              replace H : (if 0 ≤ t161 then (if t161 < (y158.length : Int) then (some (rd y158 t161, t162, t163, t164)) else (none)) else (none)) = some (r1, r2, r3, r4) := H
              have A26 := Aside0.mk A260
              clear A260
              by_cases c27 : 0 ≤ t161
              · rw [if_pos c27] at H
                have c27b0 : decide (0 ≤ t161) = true := decide_eq_true c27
                clear c27
                by_cases c28 : t161 < (y158.length : Int)
                · rw [if_pos c28] at H
                  have c28b0 : decide (t161 < (y158.length : Int)) = true := decide_eq_true c28
                  clear c28
                  simp only [Option.some.injEq, Prod.mk.injEq] at H
                  obtain ⟨rfl, rfl, rfl, rfl⟩ := H
                  go_wp2_with (first | ((with_reducible refine gate_callee (f := 67) rfl ?_); refine goesL_ (some 27) rfl rfl Tryd.func67 (by kernel_rfl) rfl #[.pointer (some ⟨g, 0, none⟩), .int .i64 10] rfl (by (try simp only [List.map_toArray, List.map_cons, List.map_nil]); first | done | rfl | (simp only [List.length_drop, List.length_take]; rfl)) ?_; (with_reducible refine (spec_l01Src_n.calls g s0_0 t123 t124 t125 10 t142 t143 t144 t145 w0 _ ?side1 ?side2 A22.out).mono ?_); (case side1 => repeat (first | (with_reducible first | exact HI0.out | apply IsS84.alloc | apply IsS84.drewN | apply IsS84.drew | apply IsS84.set_1 | apply IsS84.set_2 | apply IsS84.set_3) | exact HI0.out)); (case side2 => repeat (first | (with_reducible first | exact HB.out | apply below_alloc | apply pw_below_drewN | apply below_drew1 | refine below_set ?_ (IsS84.ge HI0.out)) | exact HB.out)); rintro e w29 ⟨rfl, hi, hb, hk⟩; refine ⟨_, rfl, ?_⟩; have n0_ := Aside0.mk (KeepBut.trans (by repeat (first | (with_reducible first | exact HK.out | apply KeepBut.set_ | apply keep_drewN | apply keep_drew | apply keep_alloc) | exact HK.out)) hk (.inl rfl)); have n1_ := Aside0.mk (hb); have n2_ := Aside0.mk (hi); clear HK; clear HB; clear HI0; have HK := n0_; have HB := n1_; have HI0 := n2_; clear n0_ n1_ n2_; (try clear hb); (try clear hb2); (try clear hk); (try clear hi)) | ((with_reducible refine gate_callee (f := 67) rfl ?_); refine goesL_ (some 30) rfl rfl Tryd.func67 (by kernel_rfl) rfl #[.pointer (some ⟨g, 0, none⟩), .int .i64 10] rfl (by (try simp only [List.map_toArray, List.map_cons, List.map_nil]); first | done | rfl | (simp only [List.length_drop, List.length_take]; rfl)) ?_; (with_reducible refine (spec_l01Src_n.calls g s0_0 t143 t144 t145 10 t146 t147 t148 t149 w0 _ ?side1 ?side2 A23.out).mono ?_); (case side1 => repeat (first | (with_reducible first | exact HI0.out | apply IsS84.alloc | apply IsS84.drewN | apply IsS84.drew | apply IsS84.set_1 | apply IsS84.set_2 | apply IsS84.set_3) | exact HI0.out)); (case side2 => repeat (first | (with_reducible first | exact HB.out | apply below_alloc | apply pw_below_drewN | apply below_drew1 | refine below_set ?_ (IsS84.ge HI0.out)) | exact HB.out)); rintro e w30 ⟨rfl, hi, hb, hk⟩; refine ⟨_, rfl, ?_⟩; have n0_ := Aside0.mk (KeepBut.trans (by repeat (first | (with_reducible first | exact HK.out | apply KeepBut.set_ | apply keep_drewN | apply keep_drew | apply keep_alloc) | exact HK.out)) hk (.inl rfl)); have n1_ := Aside0.mk (hb); have n2_ := Aside0.mk (hi); clear HK; clear HB; clear HI0; have HK := n0_; have HB := n1_; have HI0 := n2_; clear n0_ n1_ n2_; (try clear hb); (try clear hb2); (try clear hk); (try clear hi)) | ((with_reducible refine gate_callee (f := 67) rfl ?_); refine goesL_ (some 33) rfl rfl Tryd.func67 (by kernel_rfl) rfl #[.pointer (some ⟨g, 0, none⟩), .int .i64 10] rfl (by (try simp only [List.map_toArray, List.map_cons, List.map_nil]); first | done | rfl | (simp only [List.length_drop, List.length_take]; rfl)) ?_; (with_reducible refine (spec_l01Src_n.calls g s0_0 t147 t148 t149 10 t150 t151 t152 t153 w0 _ ?side1 ?side2 A24.out).mono ?_); (case side1 => repeat (first | (with_reducible first | exact HI0.out | apply IsS84.alloc | apply IsS84.drewN | apply IsS84.drew | apply IsS84.set_1 | apply IsS84.set_2 | apply IsS84.set_3) | exact HI0.out)); (case side2 => repeat (first | (with_reducible first | exact HB.out | apply below_alloc | apply pw_below_drewN | apply below_drew1 | refine below_set ?_ (IsS84.ge HI0.out)) | exact HB.out)); rintro e w31 ⟨rfl, hi, hb, hk⟩; refine ⟨_, rfl, ?_⟩; have n0_ := Aside0.mk (KeepBut.trans (by repeat (first | (with_reducible first | exact HK.out | apply KeepBut.set_ | apply keep_drewN | apply keep_drew | apply keep_alloc) | exact HK.out)) hk (.inl rfl)); have n1_ := Aside0.mk (hb); have n2_ := Aside0.mk (hi); clear HK; clear HB; clear HI0; have HK := n0_; have HB := n1_; have HI0 := n2_; clear n0_ n1_ n2_; (try clear hb); (try clear hb2); (try clear hk); (try clear hi)) | ((with_reducible refine gate_callee (f := 67) rfl ?_); refine goesL_ (some 36) rfl rfl Tryd.func67 (by kernel_rfl) rfl #[.pointer (some ⟨g, 0, none⟩), .int .i64 10] rfl (by (try simp only [List.map_toArray, List.map_cons, List.map_nil]); first | done | rfl | (simp only [List.length_drop, List.length_take]; rfl)) ?_; (with_reducible refine (spec_l01Src_n.calls g s0_0 t151 t152 t153 10 t154 t155 t156 t157 w0 _ ?side1 ?side2 A25.out).mono ?_); (case side1 => repeat (first | (with_reducible first | exact HI0.out | apply IsS84.alloc | apply IsS84.drewN | apply IsS84.drew | apply IsS84.set_1 | apply IsS84.set_2 | apply IsS84.set_3) | exact HI0.out)); (case side2 => repeat (first | (with_reducible first | exact HB.out | apply below_alloc | apply pw_below_drewN | apply below_drew1 | refine below_set ?_ (IsS84.ge HI0.out)) | exact HB.out)); rintro e w32 ⟨rfl, hi, hb, hk⟩; refine ⟨_, rfl, ?_⟩; have n0_ := Aside0.mk (KeepBut.trans (by repeat (first | (with_reducible first | exact HK.out | apply KeepBut.set_ | apply keep_drewN | apply keep_drew | apply keep_alloc) | exact HK.out)) hk (.inl rfl)); have n1_ := Aside0.mk (hb); have n2_ := Aside0.mk (hi); clear HK; clear HB; clear HI0; have HK := n0_; have HB := n1_; have HI0 := n2_; clear n0_ n1_ n2_; (try clear hb); (try clear hb2); (try clear hk); (try clear hi)) | ((with_reducible refine gate_dst (N := 38) rfl ?_); refine Kd.R_lit (Kd.int .i64) _ 2 ?hg (N := 38) ?hd (xs := ([wrap64 (48 + t142), wrap64 (592 + t146), wrap64 (1360 + t150), wrap64 (10016 + t154)] : List Int)) (inner := [.int .i64 (wrap64 (48 + t142)), .int .i64 (wrap64 (592 + t146)), .int .i64 (wrap64 (1360 + t150)), .int .i64 (wrap64 (10016 + t154))]) (ok := fun _ => True) (okp := fun _ => True) ?hr ?hp (fun _ hk => hk) trivial (Below.refl _ _) (Nat.le_refl _) (by simp) ?_; (case hd => rfl); (case hg => rfl); (case hr => first | (go_simp; done) | (go_simp; rfl)); (case hp => exact (Reps.one (show Kd.M (Kd.int .i64) _ _ _ (wrap64 (48 + t142)) [.int .i64 (wrap64 (48 + t142))] from rfl) (Reps.one (show Kd.M (Kd.int .i64) _ _ _ (wrap64 (592 + t146)) [.int .i64 (wrap64 (592 + t146))] from rfl) (Reps.one (show Kd.M (Kd.int .i64) _ _ _ (wrap64 (1360 + t150)) [.int .i64 (wrap64 (1360 + t150))] from rfl) (Reps.one (show Kd.M (Kd.int .i64) _ _ _ (wrap64 (10016 + t154)) [.int .i64 (wrap64 (10016 + t154))] from rfl) (Reps.none _ _)))))); intro v159 w33 ho34 hb hg_ hnew_; clear hg_ hnew_; (first | rw [← Ny158.out] at ho34 | (simp only [Int.reduceToNat] at ho34; rw [← Ny158.out] at ho34)); have n0_ := Aside0.mk (Kd.R_lower ho34 (keep_size (w := w) (g := g) (row := none) (by repeat (first | (with_reducible first | exact HK.out | apply KeepBut.set_ | apply keep_drewN | apply keep_drew | apply keep_alloc) | exact HK.out)))); have n1_ := Aside0.mk (IsS84.below (by repeat (first | (with_reducible first | exact HI0.out | apply IsS84.alloc | apply IsS84.drewN | apply IsS84.drew | apply IsS84.set_1 | apply IsS84.set_2 | apply IsS84.set_3) | exact HI0.out)) hb); have n2_ := Aside0.mk (KeepBut.trans (by repeat (first | (with_reducible first | exact HK.out | apply KeepBut.set_ | apply keep_drewN | apply keep_drew | apply keep_alloc) | exact HK.out)) (KeepBut.of_below hb g none) (.inl rfl)); have n3_ := Aside0.mk (below_step (by repeat (first | (with_reducible first | exact HB.out | apply below_alloc | apply pw_below_drewN | apply below_drew1 | refine below_set ?_ (IsS84.ge HI0.out)) | exact HB.out)) hb); clear HI0; clear HK; clear HB; have HO160 := n0_; have HI0 := n1_; have HK := n2_; have HB := n3_; clear n0_ n1_ n2_ n3_; clear hb ho34) | ((with_reducible refine gate_callee (f := 67) rfl ?_); refine goesL_ (some 40) rfl rfl Tryd.func67 (by kernel_rfl) rfl #[.pointer (some ⟨g, 0, none⟩), .int .i64 4] rfl (by (try simp only [List.map_toArray, List.map_cons, List.map_nil]); first | done | rfl | (simp only [List.length_drop, List.length_take]; rfl)) ?_; (with_reducible refine (spec_l01Src_n.calls g s0_0 t155 t156 t157 4 t161 t162 t163 t164 w0 _ ?side1 ?side2 A26.out).mono ?_); (case side1 => repeat (first | (with_reducible first | exact HI0.out | apply IsS84.alloc | apply IsS84.drewN | apply IsS84.drew | apply IsS84.set_1 | apply IsS84.set_2 | apply IsS84.set_3) | exact HI0.out)); (case side2 => repeat (first | (with_reducible first | exact HB.out | apply below_alloc | apply pw_below_drewN | apply below_drew1 | refine below_set ?_ (IsS84.ge HI0.out)) | exact HB.out)); rintro e w35 ⟨rfl, hi, hb, hk⟩; refine ⟨_, rfl, ?_⟩; have n0_ := Aside0.mk (Kd.R_mono (Kd.R_keep (IsS84.apart (show IsS84 w0 _ g s0_0 t155 t156 t157 from by repeat (first | (with_reducible first | exact HI0.out | apply IsS84.alloc | apply IsS84.drewN | apply IsS84.drew | apply IsS84.set_1 | apply IsS84.set_2 | apply IsS84.set_3) | exact HI0.out)) (by (with_reducible repeat (first | apply Kd.R_alloc | apply Kd.R_drewN | apply Kd.R_drew)); exact HO160.out) (by decide)) hk (fun _ h => h.2)) (fun _ h => h.1)); have n1_ := Aside0.mk (KeepBut.trans (by repeat (first | (with_reducible first | exact HK.out | apply KeepBut.set_ | apply keep_drewN | apply keep_drew | apply keep_alloc) | exact HK.out)) hk (.inl rfl)); have n2_ := Aside0.mk (hb); have n3_ := Aside0.mk (hi); clear HO160; clear HK; clear HB; clear HI0; have HO160 := n0_; have HK := n1_; have HB := n2_; have HI0 := n3_; clear n0_ n1_ n2_ n3_; (try clear hb); (try clear hb2); (try clear hk); (try clear hi); obtain ⟨Ao36, co36, eo36⟩ := Kd.R_slice HO160.out; subst eo36; have p165 : 0 ≤ (t161 : Int) := of_decide_eq_true (by first | (with_reducible assumption) | assumption); have q165 : t161 < (y158.length : Int) := of_decide_eq_true (by first | (with_reducible assumption) | assumption); obtain ⟨ad165, e165, hx165_0⟩ := Kd.at_int (Kd.R_reads' HO160.out).2.2 t161 p165 q165; cases e165; replace p165 := eq_true p165; replace q165 := eq_true q165))
                  go_ret
                  exact ⟨by first | rfl | (simp [errW_none, errW_some] <;> rfl) | (simp [*, errW_none, errW_some] <;> rfl), by repeat (first | (with_reducible first | exact HI0.out | apply IsS84.alloc | apply IsS84.drewN | apply IsS84.drew | apply IsS84.set_1 | apply IsS84.set_2 | apply IsS84.set_3) | exact HI0.out), by repeat (first | (with_reducible first | exact HB.out | apply below_alloc | apply pw_below_drewN | apply below_drew1 | refine below_set ?_ (IsS84.ge HI0.out)) | exact HB.out), by repeat (first | (with_reducible first | exact HK.out | apply KeepBut.set_ | apply keep_drewN | apply keep_drew | apply keep_alloc) | exact HK.out)⟩
                · rw [if_neg c28] at H
                  exact absurd H (by simp)
              · rw [if_neg c27] at H
                exact absurd H (by simp)
            · rw [if_neg c21] at H
              have c21b0 : (t122 == 5) = false := beq_eq_false_iff_ne.mpr c21
              have c21b1 : (t122 != 5) = true := bne_iff_ne.mpr c21
              by_cases c37 : t122 = 6
              · rw [if_pos c37] at H
                have c37b0 : (t122 == 6) = true := beq_iff_eq.mpr c37
                have c37b1 : (t122 != 6) = false := bne_eq_false_iff_eq.mpr c37
                clear c37
                obtain ⟨y166, hy166⟩ : ∃ y_ : List Int, y_ = (([46, 44, 33, 63, 39, 40, 41, 91, 93, 45, 58, 95] : List Int)) := ⟨_, rfl⟩
                replace H : ((spec_l01Src_n.f s0_0 t123 t124 t125 12).bind fun bt169 => (if 0 ≤ bt169.1 then (if bt169.1 < (y166.length : Int) then (some (rd y166 bt169.1, bt169.2.1, bt169.2.2.1, bt169.2.2.2)) else (none)) else (none))) = some (r1, r2, r3, r4) := by first | (rw [hy166]; with_reducible exact H) | (have H2_ := (Option.bind_some _ _).symm.trans H; rw [hy166]; with_reducible exact H2_) | (have H2_ := (Option.bind_some _ _).symm.trans H; with_reducible exact H2_) | with_reducible exact H | (rw [hy166]; exact H) | exact H
                have Ny166 := Aside0.mk hy166
                clear hy166
                replace H := Option.bind_eq_some_iff.mp H
                obtain ⟨⟨t169, t170, t171, t172⟩, A380, H⟩ := H
                replace H : (if 0 ≤ t169 then (if t169 < (y166.length : Int) then (some (rd y166 t169, t170, t171, t172)) else (none)) else (none)) = some (r1, r2, r3, r4) := H
                have A38 := Aside0.mk A380
                clear A380
                by_cases c39 : 0 ≤ t169
                · rw [if_pos c39] at H
                  have c39b0 : decide (0 ≤ t169) = true := decide_eq_true c39
                  clear c39
                  by_cases c40 : t169 < (y166.length : Int)
                  · rw [if_pos c40] at H
                    have c40b0 : decide (t169 < (y166.length : Int)) = true := decide_eq_true c40
                    clear c40
                    simp only [Option.some.injEq, Prod.mk.injEq] at H
                    obtain ⟨rfl, rfl, rfl, rfl⟩ := H
                    go_wp2_with (first | ((with_reducible refine gate_dst (N := 45) rfl ?_); refine Kd.R_lit (Kd.int .i64) _ 2 ?hg (N := 45) ?hd (xs := ([46, 44, 33, 63, 39, 40, 41, 91, 93, 45, 58, 95] : List Int)) (inner := [.int .i64 46, .int .i64 44, .int .i64 33, .int .i64 63, .int .i64 39, .int .i64 40, .int .i64 41, .int .i64 91, .int .i64 93, .int .i64 45, .int .i64 58, .int .i64 95]) (ok := fun _ => True) (okp := fun _ => True) ?hr ?hp (fun _ hk => hk) trivial (Below.refl _ _) (Nat.le_refl _) (by simp) ?_; (case hd => rfl); (case hg => rfl); (case hr => first | (go_simp; done) | (go_simp; rfl)); (case hp => exact (Reps.one (show Kd.M (Kd.int .i64) _ _ _ 46 [.int .i64 46] from rfl) (Reps.one (show Kd.M (Kd.int .i64) _ _ _ 44 [.int .i64 44] from rfl) (Reps.one (show Kd.M (Kd.int .i64) _ _ _ 33 [.int .i64 33] from rfl) (Reps.one (show Kd.M (Kd.int .i64) _ _ _ 63 [.int .i64 63] from rfl) (Reps.one (show Kd.M (Kd.int .i64) _ _ _ 39 [.int .i64 39] from rfl) (Reps.one (show Kd.M (Kd.int .i64) _ _ _ 40 [.int .i64 40] from rfl) (Reps.one (show Kd.M (Kd.int .i64) _ _ _ 41 [.int .i64 41] from rfl) (Reps.one (show Kd.M (Kd.int .i64) _ _ _ 91 [.int .i64 91] from rfl) (Reps.one (show Kd.M (Kd.int .i64) _ _ _ 93 [.int .i64 93] from rfl) (Reps.one (show Kd.M (Kd.int .i64) _ _ _ 45 [.int .i64 45] from rfl) (Reps.one (show Kd.M (Kd.int .i64) _ _ _ 58 [.int .i64 58] from rfl) (Reps.one (show Kd.M (Kd.int .i64) _ _ _ 95 [.int .i64 95] from rfl) (Reps.none _ _)))))))))))))); intro v167 w41 ho42 hb hg_ hnew_; clear hg_ hnew_; (first | rw [← Ny166.out] at ho42 | (simp only [Int.reduceToNat] at ho42; rw [← Ny166.out] at ho42)); have n0_ := Aside0.mk (Kd.R_lower ho42 (keep_size (w := w) (g := g) (row := none) (by repeat (first | (with_reducible first | exact HK.out | apply KeepBut.set_ | apply keep_drewN | apply keep_drew | apply keep_alloc) | exact HK.out)))); have n1_ := Aside0.mk (IsS84.below (by repeat (first | (with_reducible first | exact HI0.out | apply IsS84.alloc | apply IsS84.drewN | apply IsS84.drew | apply IsS84.set_1 | apply IsS84.set_2 | apply IsS84.set_3) | exact HI0.out)) hb); have n2_ := Aside0.mk (KeepBut.trans (by repeat (first | (with_reducible first | exact HK.out | apply KeepBut.set_ | apply keep_drewN | apply keep_drew | apply keep_alloc) | exact HK.out)) (KeepBut.of_below hb g none) (.inl rfl)); have n3_ := Aside0.mk (below_step (by repeat (first | (with_reducible first | exact HB.out | apply below_alloc | apply pw_below_drewN | apply below_drew1 | refine below_set ?_ (IsS84.ge HI0.out)) | exact HB.out)) hb); clear HI0; clear HK; clear HB; have HO168 := n0_; have HI0 := n1_; have HK := n2_; have HB := n3_; clear n0_ n1_ n2_ n3_; clear hb ho42) | ((with_reducible refine gate_callee (f := 67) rfl ?_); refine goesL_ (some 47) rfl rfl Tryd.func67 (by kernel_rfl) rfl #[.pointer (some ⟨g, 0, none⟩), .int .i64 12] rfl (by (try simp only [List.map_toArray, List.map_cons, List.map_nil]); first | done | rfl | (simp only [List.length_drop, List.length_take]; rfl)) ?_; (with_reducible refine (spec_l01Src_n.calls g s0_0 t123 t124 t125 12 t169 t170 t171 t172 w0 _ ?side1 ?side2 A38.out).mono ?_); (case side1 => repeat (first | (with_reducible first | exact HI0.out | apply IsS84.alloc | apply IsS84.drewN | apply IsS84.drew | apply IsS84.set_1 | apply IsS84.set_2 | apply IsS84.set_3) | exact HI0.out)); (case side2 => repeat (first | (with_reducible first | exact HB.out | apply below_alloc | apply pw_below_drewN | apply below_drew1 | refine below_set ?_ (IsS84.ge HI0.out)) | exact HB.out)); rintro e w43 ⟨rfl, hi, hb, hk⟩; refine ⟨_, rfl, ?_⟩; have n0_ := Aside0.mk (Kd.R_mono (Kd.R_keep (IsS84.apart (show IsS84 w0 _ g s0_0 t123 t124 t125 from by repeat (first | (with_reducible first | exact HI0.out | apply IsS84.alloc | apply IsS84.drewN | apply IsS84.drew | apply IsS84.set_1 | apply IsS84.set_2 | apply IsS84.set_3) | exact HI0.out)) (by (with_reducible repeat (first | apply Kd.R_alloc | apply Kd.R_drewN | apply Kd.R_drew)); exact HO168.out) (by decide)) hk (fun _ h => h.2)) (fun _ h => h.1)); have n1_ := Aside0.mk (KeepBut.trans (by repeat (first | (with_reducible first | exact HK.out | apply KeepBut.set_ | apply keep_drewN | apply keep_drew | apply keep_alloc) | exact HK.out)) hk (.inl rfl)); have n2_ := Aside0.mk (hb); have n3_ := Aside0.mk (hi); clear HO168; clear HK; clear HB; clear HI0; have HO168 := n0_; have HK := n1_; have HB := n2_; have HI0 := n3_; clear n0_ n1_ n2_ n3_; (try clear hb); (try clear hb2); (try clear hk); (try clear hi); obtain ⟨Ao44, co44, eo44⟩ := Kd.R_slice HO168.out; subst eo44; have p173 : 0 ≤ (t169 : Int) := of_decide_eq_true (by first | (with_reducible assumption) | assumption); have q173 : t169 < (y166.length : Int) := of_decide_eq_true (by first | (with_reducible assumption) | assumption); obtain ⟨ad173, e173, hx173_0⟩ := Kd.at_int (Kd.R_reads' HO168.out).2.2 t169 p173 q173; cases e173; replace p173 := eq_true p173; replace q173 := eq_true q173))
                    go_ret
                    exact ⟨by first | rfl | (simp [errW_none, errW_some] <;> rfl) | (simp [*, errW_none, errW_some] <;> rfl), by repeat (first | (with_reducible first | exact HI0.out | apply IsS84.alloc | apply IsS84.drewN | apply IsS84.drew | apply IsS84.set_1 | apply IsS84.set_2 | apply IsS84.set_3) | exact HI0.out), by repeat (first | (with_reducible first | exact HB.out | apply below_alloc | apply pw_below_drewN | apply below_drew1 | refine below_set ?_ (IsS84.ge HI0.out)) | exact HB.out), by repeat (first | (with_reducible first | exact HK.out | apply KeepBut.set_ | apply keep_drewN | apply keep_drew | apply keep_alloc) | exact HK.out)⟩
                  · rw [if_neg c40] at H
                    exact absurd H (by simp)
                · rw [if_neg c39] at H
                  exact absurd H (by simp)
              · rw [if_neg c37] at H
                have c37b0 : (t122 == 6) = false := beq_eq_false_iff_ne.mpr c37
                have c37b1 : (t122 != 6) = true := bne_iff_ne.mpr c37
                have HC45 := Aside0.mk H
                clear H
                go_upto_if 50 with (fail)
                go_cut [50] (fun v50 wc => ∃ (kq : Nat) (x50_44 : Bool), v50 = .bool x50_44 ∧ Aside0 (spec_l01Src_point.j1 kq t122 x50_44 s0_0 t123 t124 t125 = some (r1, r2, r3, r4)) ∧ Aside0 (kq ≤ kj2) ∧ Aside0 (IsS84 w0 wc g s0_0 t123 t124 t125) ∧ Aside0 (KeepBut w wc g none) ∧ Aside0 (Below w0.heap.size w0 wc))
                case first =>
                  have H := HC45.out
                  clear HC45
                  by_cases c46 : t122 = 7
                  · rw [if_pos c46] at H
                    have c46b0 : (t122 == 7) = true := beq_iff_eq.mpr c46
                    have c46b1 : (t122 != 7) = false := bne_eq_false_iff_eq.mpr c46
                    clear c46
                    (first | rw [c46b0] | (simp only [i64_w, i32_w]; rw [c46b0]) | skip)
                    have H' := Aside0.mk H
                    clear H
                    go_wp2
                    go_meet
                    case rel => exact ⟨_, ((t122 == 7)), (by first | rfl | (simp; done) | (simp [*]; done)), H', ⟨by have := HJ2.out; first | omega | exact Nat.le_refl _⟩, ⟨by repeat (first | (with_reducible first | exact HI0.out | apply IsS84.alloc | apply IsS84.drewN | apply IsS84.drew | apply IsS84.set_1 | apply IsS84.set_2 | apply IsS84.set_3) | exact HI0.out)⟩, ⟨by repeat (first | (with_reducible first | exact HK.out | apply KeepBut.set_ | apply keep_drewN | apply keep_drew | apply keep_alloc) | exact HK.out)⟩, ⟨by repeat (first | (with_reducible first | exact HB.out | apply below_alloc | apply pw_below_drewN | apply below_drew1 | refine below_set ?_ (IsS84.ge HI0.out)) | exact HB.out)⟩⟩
                  · rw [if_neg c46] at H
                    have c46b0 : (t122 == 7) = false := beq_eq_false_iff_ne.mpr c46
                    have c46b1 : (t122 != 7) = true := bne_iff_ne.mpr c46
                    (first | rw [c46b0] | (simp only [i64_w, i32_w]; rw [c46b0]) | skip)
                    have H' := Aside0.mk H
                    clear H
                    go_wp2
                    go_meet
                    case rel => exact ⟨_, ((t122 == 8)), (by first | rfl | (simp; done) | (simp [*]; done)), H', ⟨by have := HJ2.out; first | omega | exact Nat.le_refl _⟩, ⟨by repeat (first | (with_reducible first | exact HI0.out | apply IsS84.alloc | apply IsS84.drewN | apply IsS84.drew | apply IsS84.set_1 | apply IsS84.set_2 | apply IsS84.set_3) | exact HI0.out)⟩, ⟨by repeat (first | (with_reducible first | exact HK.out | apply KeepBut.set_ | apply keep_drewN | apply keep_drew | apply keep_alloc) | exact HK.out)⟩, ⟨by repeat (first | (with_reducible first | exact HB.out | apply below_alloc | apply pw_below_drewN | apply below_drew1 | refine below_set ?_ (IsS84.ge HI0.out)) | exact HB.out)⟩⟩
                case rest =>
                  clear HC45
                  try clear c1
                  try clear p1
                  try clear q1
                  try clear hx1
                  try clear c2
                  try clear p2
                  try clear c3
                  try clear c4
                  try clear c5
                  try clear c5b0
                  try clear c5b1
                  try clear c6
                  try clear c6b0
                  try clear c6b1
                  try clear p6
                  try clear c7
                  try clear c9
                  try clear c10
                  try clear c10b0
                  try clear c10b1
                  try clear c13
                  try clear c13b0
                  try clear c13b1
                  try clear p14
                  try clear q14
                  try clear hx14
                  try clear c15
                  try clear c15b0
                  try clear c16
                  try clear c16b0
                  try clear p16
                  try clear q16
                  try clear hx16
                  try clear p17
                  try clear q17
                  try clear hx17
                  try clear c21
                  try clear c21b0
                  try clear c21b1
                  try clear c27
                  try clear c27b0
                  try clear c28
                  try clear c28b0
                  try clear c37
                  try clear c37b0
                  try clear c37b1
                  try clear c39
                  try clear c39b0
                  try clear c40
                  try clear c40b0
                  try clear c46
                  try clear c46b0
                  try clear c46b1
                  try clear hx141_0
                  try clear hx165_0
                  try clear hx173_0
                  try clear p141
                  try clear p165
                  try clear p173
                  try clear p2
                  try clear q141
                  try clear q165
                  try clear q173
                  obtain ⟨kq, x50_44, rfl, HA, HJ44, HI0, HK, HB⟩ := hcut
                  cases kq with
                  | zero => exact absurd HA.out (by simp [spec_l01Src_point.j1])
                  | succ kj44 =>
                    have H := HA.out
                    clear HA
                    simp only [spec_l01Src_point.j1] at H
                    by_cases c47 : x50_44 = true
                    · subst c47
                      have H1 : ((spec_l01Src_n.f s0_0 t123 t124 t125 3).bind fun bt174 => ((spec_l01Src_n.f s0_0 bt174.2.1 bt174.2.2.1 bt174.2.2.2 76).bind fun bt178 => (some (wrap64 ((wrap64 (512 + (wrap64 (256 * bt174.1)))) + bt178.1), bt178.2.1, bt178.2.2.1, bt178.2.2.2)))) = some (r1, r2, r3, r4) := by rw [if_pos rfl] at H; exact H
                      clear H
                      have H := H1
                      clear H1
                      replace H := Option.bind_eq_some_iff.mp H
                      obtain ⟨⟨t174, t175, t176, t177⟩, A480, H⟩ := H
                      replace H : ((spec_l01Src_n.f s0_0 t175 t176 t177 76).bind fun bt178 => (some (wrap64 ((wrap64 (512 + (wrap64 (256 * t174)))) + bt178.1), bt178.2.1, bt178.2.2.1, bt178.2.2.2))) = some (r1, r2, r3, r4) := H
                      have A48 := Aside0.mk A480
                      clear A480
                      replace H := Option.bind_eq_some_iff.mp H
                      obtain ⟨⟨t178, t179, t180, t181⟩, A490, H⟩ := H
                      replace H : (some (wrap64 ((wrap64 (512 + (wrap64 (256 * t174)))) + t178), t179, t180, t181)) = some (r1, r2, r3, r4) := H
                      have A49 := Aside0.mk A490
                      clear A490
                      simp only [Option.some.injEq, Prod.mk.injEq] at H
                      obtain ⟨rfl, rfl, rfl, rfl⟩ := H
                      go_wp2_with (first | ((with_reducible refine gate_callee (f := 67) rfl ?_); refine goesL_ (some 54) rfl rfl Tryd.func67 (by kernel_rfl) rfl #[.pointer (some ⟨g, 0, none⟩), .int .i64 3] rfl (by (try simp only [List.map_toArray, List.map_cons, List.map_nil]); first | done | rfl | (simp only [List.length_drop, List.length_take]; rfl)) ?_; (with_reducible refine (spec_l01Src_n.calls g s0_0 t123 t124 t125 3 t174 t175 t176 t177 w0 _ ?side1 ?side2 A48.out).mono ?_); (case side1 => repeat (first | (with_reducible first | exact HI0.out | apply IsS84.alloc | apply IsS84.drewN | apply IsS84.drew | apply IsS84.set_1 | apply IsS84.set_2 | apply IsS84.set_3) | exact HI0.out)); (case side2 => repeat (first | (with_reducible first | exact HB.out | apply below_alloc | apply pw_below_drewN | apply below_drew1 | refine below_set ?_ (IsS84.ge HI0.out)) | exact HB.out)); rintro e w50 ⟨rfl, hi, hb, hk⟩; refine ⟨_, rfl, ?_⟩; have n0_ := Aside0.mk (KeepBut.trans (by repeat (first | (with_reducible first | exact HK.out | apply KeepBut.set_ | apply keep_drewN | apply keep_drew | apply keep_alloc) | exact HK.out)) hk (.inl rfl)); have n1_ := Aside0.mk (hb); have n2_ := Aside0.mk (hi); clear HK; clear HB; clear HI0; have HK := n0_; have HB := n1_; have HI0 := n2_; clear n0_ n1_ n2_; (try clear hb); (try clear hb2); (try clear hk); (try clear hi)) | ((with_reducible refine gate_callee (f := 67) rfl ?_); refine goesL_ (some 58) rfl rfl Tryd.func67 (by kernel_rfl) rfl #[.pointer (some ⟨g, 0, none⟩), .int .i64 76] rfl (by (try simp only [List.map_toArray, List.map_cons, List.map_nil]); first | done | rfl | (simp only [List.length_drop, List.length_take]; rfl)) ?_; (with_reducible refine (spec_l01Src_n.calls g s0_0 t175 t176 t177 76 t178 t179 t180 t181 w0 _ ?side1 ?side2 A49.out).mono ?_); (case side1 => repeat (first | (with_reducible first | exact HI0.out | apply IsS84.alloc | apply IsS84.drewN | apply IsS84.drew | apply IsS84.set_1 | apply IsS84.set_2 | apply IsS84.set_3) | exact HI0.out)); (case side2 => repeat (first | (with_reducible first | exact HB.out | apply below_alloc | apply pw_below_drewN | apply below_drew1 | refine below_set ?_ (IsS84.ge HI0.out)) | exact HB.out)); rintro e w51 ⟨rfl, hi, hb, hk⟩; refine ⟨_, rfl, ?_⟩; have n0_ := Aside0.mk (KeepBut.trans (by repeat (first | (with_reducible first | exact HK.out | apply KeepBut.set_ | apply keep_drewN | apply keep_drew | apply keep_alloc) | exact HK.out)) hk (.inl rfl)); have n1_ := Aside0.mk (hb); have n2_ := Aside0.mk (hi); clear HK; clear HB; clear HI0; have HK := n0_; have HB := n1_; have HI0 := n2_; clear n0_ n1_ n2_; (try clear hb); (try clear hb2); (try clear hk); (try clear hi)))
                      go_ret
                      exact ⟨by first | rfl | (simp [errW_none, errW_some] <;> rfl) | (simp [*, errW_none, errW_some] <;> rfl), by repeat (first | (with_reducible first | exact HI0.out | apply IsS84.alloc | apply IsS84.drewN | apply IsS84.drew | apply IsS84.set_1 | apply IsS84.set_2 | apply IsS84.set_3) | exact HI0.out), by repeat (first | (with_reducible first | exact HB.out | apply below_alloc | apply pw_below_drewN | apply below_drew1 | refine below_set ?_ (IsS84.ge HI0.out)) | exact HB.out), by repeat (first | (with_reducible first | exact HK.out | apply KeepBut.set_ | apply keep_drewN | apply keep_drew | apply keep_alloc) | exact HK.out)⟩
                    · replace c47 := Bool.eq_false_iff.mpr c47
                      subst c47
                      have H1 : (if t122 = 9 then ((spec_l01Src_n.f s0_0 t123 t124 t125 3).bind fun bt182 => ((spec_l01Src_n.f s0_0 bt182.2.1 bt182.2.2.1 bt182.2.2.2 2).bind fun bt186 => (some (wrap64 ((wrap64 ((wrap64 (512 + (wrap64 (256 * bt182.1)))) + 96)) + bt186.1), bt186.2.1, bt186.2.2.1, bt186.2.2.2)))) else (if t122 = 10 then (spec_l01Src_point.j2 kj44 t122 (t122 == 10) s0_0 t123 t124 t125) else (spec_l01Src_point.j2 kj44 t122 (t122 == 11) s0_0 t123 t124 t125))) = some (r1, r2, r3, r4) := by rw [if_neg (show ¬ (false = true) by decide)] at H; exact H
                      clear H
                      have H := H1
                      clear H1
                      by_cases c52 : t122 = 9
                      · rw [if_pos c52] at H
                        have c52b0 : (t122 == 9) = true := beq_iff_eq.mpr c52
                        have c52b1 : (t122 != 9) = false := bne_eq_false_iff_eq.mpr c52
                        clear c52
                        replace H := Option.bind_eq_some_iff.mp H
                        obtain ⟨⟨t182, t183, t184, t185⟩, A530, H⟩ := H
                        replace H : ((spec_l01Src_n.f s0_0 t183 t184 t185 2).bind fun bt186 => (some (wrap64 ((wrap64 ((wrap64 (512 + (wrap64 (256 * t182)))) + 96)) + bt186.1), bt186.2.1, bt186.2.2.1, bt186.2.2.2))) = some (r1, r2, r3, r4) := H
                        have A53 := Aside0.mk A530
                        clear A530
                        replace H := Option.bind_eq_some_iff.mp H
                        obtain ⟨⟨t186, t187, t188, t189⟩, A540, H⟩ := H
                        replace H : (some (wrap64 ((wrap64 ((wrap64 (512 + (wrap64 (256 * t182)))) + 96)) + t186), t187, t188, t189)) = some (r1, r2, r3, r4) := H
                        have A54 := Aside0.mk A540
                        clear A540
                        simp only [Option.some.injEq, Prod.mk.injEq] at H
                        obtain ⟨rfl, rfl, rfl, rfl⟩ := H
                        go_wp2_with (first | ((with_reducible refine gate_callee (f := 67) rfl ?_); refine goesL_ (some 63) rfl rfl Tryd.func67 (by kernel_rfl) rfl #[.pointer (some ⟨g, 0, none⟩), .int .i64 3] rfl (by (try simp only [List.map_toArray, List.map_cons, List.map_nil]); first | done | rfl | (simp only [List.length_drop, List.length_take]; rfl)) ?_; (with_reducible refine (spec_l01Src_n.calls g s0_0 t123 t124 t125 3 t182 t183 t184 t185 w0 _ ?side1 ?side2 A53.out).mono ?_); (case side1 => repeat (first | (with_reducible first | exact HI0.out | apply IsS84.alloc | apply IsS84.drewN | apply IsS84.drew | apply IsS84.set_1 | apply IsS84.set_2 | apply IsS84.set_3) | exact HI0.out)); (case side2 => repeat (first | (with_reducible first | exact HB.out | apply below_alloc | apply pw_below_drewN | apply below_drew1 | refine below_set ?_ (IsS84.ge HI0.out)) | exact HB.out)); rintro e w55 ⟨rfl, hi, hb, hk⟩; refine ⟨_, rfl, ?_⟩; have n0_ := Aside0.mk (KeepBut.trans (by repeat (first | (with_reducible first | exact HK.out | apply KeepBut.set_ | apply keep_drewN | apply keep_drew | apply keep_alloc) | exact HK.out)) hk (.inl rfl)); have n1_ := Aside0.mk (hb); have n2_ := Aside0.mk (hi); clear HK; clear HB; clear HI0; have HK := n0_; have HB := n1_; have HI0 := n2_; clear n0_ n1_ n2_; (try clear hb); (try clear hb2); (try clear hk); (try clear hi)) | ((with_reducible refine gate_callee (f := 67) rfl ?_); refine goesL_ (some 68) rfl rfl Tryd.func67 (by kernel_rfl) rfl #[.pointer (some ⟨g, 0, none⟩), .int .i64 2] rfl (by (try simp only [List.map_toArray, List.map_cons, List.map_nil]); first | done | rfl | (simp only [List.length_drop, List.length_take]; rfl)) ?_; (with_reducible refine (spec_l01Src_n.calls g s0_0 t183 t184 t185 2 t186 t187 t188 t189 w0 _ ?side1 ?side2 A54.out).mono ?_); (case side1 => repeat (first | (with_reducible first | exact HI0.out | apply IsS84.alloc | apply IsS84.drewN | apply IsS84.drew | apply IsS84.set_1 | apply IsS84.set_2 | apply IsS84.set_3) | exact HI0.out)); (case side2 => repeat (first | (with_reducible first | exact HB.out | apply below_alloc | apply pw_below_drewN | apply below_drew1 | refine below_set ?_ (IsS84.ge HI0.out)) | exact HB.out)); rintro e w56 ⟨rfl, hi, hb, hk⟩; refine ⟨_, rfl, ?_⟩; have n0_ := Aside0.mk (KeepBut.trans (by repeat (first | (with_reducible first | exact HK.out | apply KeepBut.set_ | apply keep_drewN | apply keep_drew | apply keep_alloc) | exact HK.out)) hk (.inl rfl)); have n1_ := Aside0.mk (hb); have n2_ := Aside0.mk (hi); clear HK; clear HB; clear HI0; have HK := n0_; have HB := n1_; have HI0 := n2_; clear n0_ n1_ n2_; (try clear hb); (try clear hb2); (try clear hk); (try clear hi)))
                        go_ret
                        exact ⟨by first | rfl | (simp [errW_none, errW_some] <;> rfl) | (simp [*, errW_none, errW_some] <;> rfl), by repeat (first | (with_reducible first | exact HI0.out | apply IsS84.alloc | apply IsS84.drewN | apply IsS84.drew | apply IsS84.set_1 | apply IsS84.set_2 | apply IsS84.set_3) | exact HI0.out), by repeat (first | (with_reducible first | exact HB.out | apply below_alloc | apply pw_below_drewN | apply below_drew1 | refine below_set ?_ (IsS84.ge HI0.out)) | exact HB.out), by repeat (first | (with_reducible first | exact HK.out | apply KeepBut.set_ | apply keep_drewN | apply keep_drew | apply keep_alloc) | exact HK.out)⟩
                      · rw [if_neg c52] at H
                        have c52b0 : (t122 == 9) = false := beq_eq_false_iff_ne.mpr c52
                        have c52b1 : (t122 != 9) = true := bne_iff_ne.mpr c52
                        have HC57 := Aside0.mk H
                        clear H
                        go_upto_if 70 with (fail)
                        go_cut [70] (fun v70 wc => ∃ (kq : Nat) (x70_56 : Bool), v70 = .bool x70_56 ∧ Aside0 (spec_l01Src_point.j2 kq t122 x70_56 s0_0 t123 t124 t125 = some (r1, r2, r3, r4)) ∧ Aside0 (kq ≤ kj44) ∧ Aside0 (IsS84 w0 wc g s0_0 t123 t124 t125) ∧ Aside0 (KeepBut w wc g none) ∧ Aside0 (Below w0.heap.size w0 wc))
                        case first =>
                          have H := HC57.out
                          clear HC57
                          by_cases c58 : t122 = 10
                          · rw [if_pos c58] at H
                            have c58b0 : (t122 == 10) = true := beq_iff_eq.mpr c58
                            have c58b1 : (t122 != 10) = false := bne_eq_false_iff_eq.mpr c58
                            clear c58
                            (first | rw [c58b0] | (simp only [i64_w, i32_w]; rw [c58b0]) | skip)
                            have H' := Aside0.mk H
                            clear H
                            go_wp2
                            go_meet
                            case rel => exact ⟨_, ((t122 == 10)), (by first | rfl | (simp; done) | (simp [*]; done)), H', ⟨by have := HJ2.out; have := HJ44.out; first | omega | exact Nat.le_refl _⟩, ⟨by repeat (first | (with_reducible first | exact HI0.out | apply IsS84.alloc | apply IsS84.drewN | apply IsS84.drew | apply IsS84.set_1 | apply IsS84.set_2 | apply IsS84.set_3) | exact HI0.out)⟩, ⟨by repeat (first | (with_reducible first | exact HK.out | apply KeepBut.set_ | apply keep_drewN | apply keep_drew | apply keep_alloc) | exact HK.out)⟩, ⟨by repeat (first | (with_reducible first | exact HB.out | apply below_alloc | apply pw_below_drewN | apply below_drew1 | refine below_set ?_ (IsS84.ge HI0.out)) | exact HB.out)⟩⟩
                          · rw [if_neg c58] at H
                            have c58b0 : (t122 == 10) = false := beq_eq_false_iff_ne.mpr c58
                            have c58b1 : (t122 != 10) = true := bne_iff_ne.mpr c58
                            (first | rw [c58b0] | (simp only [i64_w, i32_w]; rw [c58b0]) | skip)
                            have H' := Aside0.mk H
                            clear H
                            go_wp2
                            go_meet
                            case rel => exact ⟨_, ((t122 == 11)), (by first | rfl | (simp; done) | (simp [*]; done)), H', ⟨by have := HJ2.out; have := HJ44.out; first | omega | exact Nat.le_refl _⟩, ⟨by repeat (first | (with_reducible first | exact HI0.out | apply IsS84.alloc | apply IsS84.drewN | apply IsS84.drew | apply IsS84.set_1 | apply IsS84.set_2 | apply IsS84.set_3) | exact HI0.out)⟩, ⟨by repeat (first | (with_reducible first | exact HK.out | apply KeepBut.set_ | apply keep_drewN | apply keep_drew | apply keep_alloc) | exact HK.out)⟩, ⟨by repeat (first | (with_reducible first | exact HB.out | apply below_alloc | apply pw_below_drewN | apply below_drew1 | refine below_set ?_ (IsS84.ge HI0.out)) | exact HB.out)⟩⟩
                        case rest =>
                          clear HC57
                          try clear c1
                          try clear p1
                          try clear q1
                          try clear hx1
                          try clear c2
                          try clear p2
                          try clear c3
                          try clear c4
                          try clear c5
                          try clear c5b0
                          try clear c5b1
                          try clear c6
                          try clear c6b0
                          try clear c6b1
                          try clear p6
                          try clear c7
                          try clear c9
                          try clear c10
                          try clear c10b0
                          try clear c10b1
                          try clear c13
                          try clear c13b0
                          try clear c13b1
                          try clear p14
                          try clear q14
                          try clear hx14
                          try clear c15
                          try clear c15b0
                          try clear c16
                          try clear c16b0
                          try clear p16
                          try clear q16
                          try clear hx16
                          try clear p17
                          try clear q17
                          try clear hx17
                          try clear c21
                          try clear c21b0
                          try clear c21b1
                          try clear c27
                          try clear c27b0
                          try clear c28
                          try clear c28b0
                          try clear c37
                          try clear c37b0
                          try clear c37b1
                          try clear c39
                          try clear c39b0
                          try clear c40
                          try clear c40b0
                          try clear c46
                          try clear c46b0
                          try clear c46b1
                          try clear c47
                          try clear c52
                          try clear c52b0
                          try clear c52b1
                          try clear c58
                          try clear c58b0
                          try clear c58b1
                          try clear hx141_0
                          try clear hx165_0
                          try clear hx173_0
                          try clear p1
                          try clear p14
                          try clear p141
                          try clear p16
                          try clear p165
                          try clear p17
                          try clear p173
                          try clear p2
                          try clear p6
                          try clear q1
                          try clear q14
                          try clear q141
                          try clear q16
                          try clear q165
                          try clear q17
                          try clear q173
                          obtain ⟨kq, x70_56, rfl, HA, HJ56, HI0, HK, HB⟩ := hcut
                          cases kq with
                          | zero => exact absurd HA.out (by simp [spec_l01Src_point.j2])
                          | succ kj56 =>
                            have H := HA.out
                            clear HA
                            simp only [spec_l01Src_point.j2] at H
                            by_cases c59 : x70_56 = true
                            · subst c59
                              have H1 : ((spec_l01Src_n.f s0_0 t123 t124 t125 32).bind fun bt190 => (some (wrap64 (1280 + bt190.1), bt190.2.1, bt190.2.2.1, bt190.2.2.2))) = some (r1, r2, r3, r4) := by rw [if_pos rfl] at H; exact H
                              clear H
                              have H := H1
                              clear H1
                              replace H := Option.bind_eq_some_iff.mp H
                              obtain ⟨⟨t190, t191, t192, t193⟩, A600, H⟩ := H
                              replace H : (some (wrap64 (1280 + t190), t191, t192, t193)) = some (r1, r2, r3, r4) := H
                              have A60 := Aside0.mk A600
                              clear A600
                              simp only [Option.some.injEq, Prod.mk.injEq] at H
                              obtain ⟨rfl, rfl, rfl, rfl⟩ := H
                              go_wp2_with (first | ((with_reducible refine gate_callee (f := 67) rfl ?_); refine goesL_ (some 74) rfl rfl Tryd.func67 (by kernel_rfl) rfl #[.pointer (some ⟨g, 0, none⟩), .int .i64 32] rfl (by (try simp only [List.map_toArray, List.map_cons, List.map_nil]); first | done | rfl | (simp only [List.length_drop, List.length_take]; rfl)) ?_; (with_reducible refine (spec_l01Src_n.calls g s0_0 t123 t124 t125 32 t190 t191 t192 t193 w0 _ ?side1 ?side2 A60.out).mono ?_); (case side1 => repeat (first | (with_reducible first | exact HI0.out | apply IsS84.alloc | apply IsS84.drewN | apply IsS84.drew | apply IsS84.set_1 | apply IsS84.set_2 | apply IsS84.set_3) | exact HI0.out)); (case side2 => repeat (first | (with_reducible first | exact HB.out | apply below_alloc | apply pw_below_drewN | apply below_drew1 | refine below_set ?_ (IsS84.ge HI0.out)) | exact HB.out)); rintro e w61 ⟨rfl, hi, hb, hk⟩; refine ⟨_, rfl, ?_⟩; have n0_ := Aside0.mk (KeepBut.trans (by repeat (first | (with_reducible first | exact HK.out | apply KeepBut.set_ | apply keep_drewN | apply keep_drew | apply keep_alloc) | exact HK.out)) hk (.inl rfl)); have n1_ := Aside0.mk (hb); have n2_ := Aside0.mk (hi); clear HK; clear HB; clear HI0; have HK := n0_; have HB := n1_; have HI0 := n2_; clear n0_ n1_ n2_; (try clear hb); (try clear hb2); (try clear hk); (try clear hi)))
                              go_ret
                              exact ⟨by first | rfl | (simp [errW_none, errW_some] <;> rfl) | (simp [*, errW_none, errW_some] <;> rfl), by repeat (first | (with_reducible first | exact HI0.out | apply IsS84.alloc | apply IsS84.drewN | apply IsS84.drew | apply IsS84.set_1 | apply IsS84.set_2 | apply IsS84.set_3) | exact HI0.out), by repeat (first | (with_reducible first | exact HB.out | apply below_alloc | apply pw_below_drewN | apply below_drew1 | refine below_set ?_ (IsS84.ge HI0.out)) | exact HB.out), by repeat (first | (with_reducible first | exact HK.out | apply KeepBut.set_ | apply keep_drewN | apply keep_drew | apply keep_alloc) | exact HK.out)⟩
                            · replace c59 := Bool.eq_false_iff.mpr c59
                              subst c59
                              have H1 : (if t122 = 12 then ((spec_l01Src_n.f s0_0 t123 t124 t125 32).bind fun bt194 => ((spec_l01Src_n.f s0_0 bt194.2.1 bt194.2.2.1 bt194.2.2.2 12).bind fun bt198 => ((some (([wrap64 (1536 + bt194.1), wrap64 (1568 + bt198.1), 1584, 1585] : List Int) : List Int)).bind fun y202 => ((spec_l01Src_n.f s0_0 bt198.2.1 bt198.2.2.1 bt198.2.2.2 4).bind fun bt205 => (if 0 ≤ bt205.1 then (if bt205.1 < (y202.length : Int) then (some (rd y202 bt205.1, bt205.2.1, bt205.2.2.1, bt205.2.2.2)) else (none)) else (none)))))) else (if t122 = 13 then ((spec_l01Src_n.f s0_0 t123 t124 t125 19).bind fun bt210 => ((spec_l01Src_n.f s0_0 bt210.2.1 bt210.2.2.1 bt210.2.2.2 21).bind fun bt214 => ((spec_l01Src_n.f s0_0 bt214.2.1 bt214.2.2.1 bt214.2.2.2 27).bind fun bt218 => ((some (([wrap64 (1792 + bt210.1), wrap64 (1824 + bt214.1), wrap64 (1857 + bt218.1)] : List Int) : List Int)).bind fun y222 => ((spec_l01Src_n.f s0_0 bt218.2.1 bt218.2.2.1 bt218.2.2.2 3).bind fun bt225 => (if 0 ≤ bt225.1 then (if bt225.1 < (y222.length : Int) then (some (rd y222 bt225.1, bt225.2.1, bt225.2.2.1, bt225.2.2.2)) else (none)) else (none))))))) else (if t122 = 14 then ((spec_l01Src_n.f s0_0 t123 t124 t125 48).bind fun bt230 => (some (wrap64 (2048 + bt230.1), bt230.2.1, bt230.2.2.1, bt230.2.2.2))) else (if t122 = 15 then (spec_l01Src_point.j3 kj56 t122 (t122 == 15) s0_0 t123 t124 t125) else (spec_l01Src_point.j3 kj56 t122 (t122 == 16) s0_0 t123 t124 t125))))) = some (r1, r2, r3, r4) := by rw [if_neg (show ¬ (false = true) by decide)] at H; exact H
                              clear H
                              have H := H1
                              clear H1
                              by_cases c62 : t122 = 12
                              · rw [if_pos c62] at H
                                have c62b0 : (t122 == 12) = true := beq_iff_eq.mpr c62
                                have c62b1 : (t122 != 12) = false := bne_eq_false_iff_eq.mpr c62
                                clear c62
                                replace H := Option.bind_eq_some_iff.mp H
                                obtain ⟨⟨t194, t195, t196, t197⟩, A630, H⟩ := H
                                replace H : ((spec_l01Src_n.f s0_0 t195 t196 t197 12).bind fun bt198 => ((some (([wrap64 (1536 + t194), wrap64 (1568 + bt198.1), 1584, 1585] : List Int) : List Int)).bind fun y202 => ((spec_l01Src_n.f s0_0 bt198.2.1 bt198.2.2.1 bt198.2.2.2 4).bind fun bt205 => (if 0 ≤ bt205.1 then (if bt205.1 < (y202.length : Int) then (some (rd y202 bt205.1, bt205.2.1, bt205.2.2.1, bt205.2.2.2)) else (none)) else (none))))) = some (r1, r2, r3, r4) := H
                                have A63 := Aside0.mk A630
                                clear A630
                                replace H := Option.bind_eq_some_iff.mp H
                                obtain ⟨⟨t198, t199, t200, t201⟩, A640, H⟩ := H
                                replace H : ((some (([wrap64 (1536 + t194), wrap64 (1568 + t198), 1584, 1585] : List Int) : List Int)).bind fun y202 => ((spec_l01Src_n.f s0_0 t199 t200 t201 4).bind fun bt205 => (if 0 ≤ bt205.1 then (if bt205.1 < (y202.length : Int) then (some (rd y202 bt205.1, bt205.2.1, bt205.2.2.1, bt205.2.2.2)) else (none)) else (none)))) = some (r1, r2, r3, r4) := H
                                have A64 := Aside0.mk A640
                                clear A640
                                obtain ⟨y202, hy202⟩ : ∃ y_ : List Int, y_ = (([wrap64 (1536 + t194), wrap64 (1568 + t198), 1584, 1585] : List Int)) := ⟨_, rfl⟩
                                replace H : ((spec_l01Src_n.f s0_0 t199 t200 t201 4).bind fun bt205 => (if 0 ≤ bt205.1 then (if bt205.1 < (y202.length : Int) then (some (rd y202 bt205.1, bt205.2.1, bt205.2.2.1, bt205.2.2.2)) else (none)) else (none))) = some (r1, r2, r3, r4) := by first | (rw [hy202]; with_reducible exact H) | (have H2_ := (Option.bind_some _ _).symm.trans H; rw [hy202]; with_reducible exact H2_) | (have H2_ := (Option.bind_some _ _).symm.trans H; with_reducible exact H2_) | with_reducible exact H | (rw [hy202]; exact H) | exact H
                                have Ny202 := Aside0.mk hy202
                                clear hy202
                                replace H := Option.bind_eq_some_iff.mp H
                                obtain ⟨⟨t205, t206, t207, t208⟩, A650, H⟩ := H
                                replace H : (if 0 ≤ t205 then (if t205 < (y202.length : Int) then (some (rd y202 t205, t206, t207, t208)) else (none)) else (none)) = some (r1, r2, r3, r4) := H
                                have A65 := Aside0.mk A650
                                clear A650
                                by_cases c66 : 0 ≤ t205
                                · rw [if_pos c66] at H
                                  have c66b0 : decide (0 ≤ t205) = true := decide_eq_true c66
                                  clear c66
                                  by_cases c67 : t205 < (y202.length : Int)
                                  · rw [if_pos c67] at H
                                    have c67b0 : decide (t205 < (y202.length : Int)) = true := decide_eq_true c67
                                    clear c67
                                    simp only [Option.some.injEq, Prod.mk.injEq] at H
                                    obtain ⟨rfl, rfl, rfl, rfl⟩ := H
                                    go_wp2_with (first | ((with_reducible refine gate_callee (f := 67) rfl ?_); refine goesL_ (some 79) rfl rfl Tryd.func67 (by kernel_rfl) rfl #[.pointer (some ⟨g, 0, none⟩), .int .i64 32] rfl (by (try simp only [List.map_toArray, List.map_cons, List.map_nil]); first | done | rfl | (simp only [List.length_drop, List.length_take]; rfl)) ?_; (with_reducible refine (spec_l01Src_n.calls g s0_0 t123 t124 t125 32 t194 t195 t196 t197 w0 _ ?side1 ?side2 A63.out).mono ?_); (case side1 => repeat (first | (with_reducible first | exact HI0.out | apply IsS84.alloc | apply IsS84.drewN | apply IsS84.drew | apply IsS84.set_1 | apply IsS84.set_2 | apply IsS84.set_3) | exact HI0.out)); (case side2 => repeat (first | (with_reducible first | exact HB.out | apply below_alloc | apply pw_below_drewN | apply below_drew1 | refine below_set ?_ (IsS84.ge HI0.out)) | exact HB.out)); rintro e w68 ⟨rfl, hi, hb, hk⟩; refine ⟨_, rfl, ?_⟩; have n0_ := Aside0.mk (KeepBut.trans (by repeat (first | (with_reducible first | exact HK.out | apply KeepBut.set_ | apply keep_drewN | apply keep_drew | apply keep_alloc) | exact HK.out)) hk (.inl rfl)); have n1_ := Aside0.mk (hb); have n2_ := Aside0.mk (hi); clear HK; clear HB; clear HI0; have HK := n0_; have HB := n1_; have HI0 := n2_; clear n0_ n1_ n2_; (try clear hb); (try clear hb2); (try clear hk); (try clear hi)) | ((with_reducible refine gate_callee (f := 67) rfl ?_); refine goesL_ (some 82) rfl rfl Tryd.func67 (by kernel_rfl) rfl #[.pointer (some ⟨g, 0, none⟩), .int .i64 12] rfl (by (try simp only [List.map_toArray, List.map_cons, List.map_nil]); first | done | rfl | (simp only [List.length_drop, List.length_take]; rfl)) ?_; (with_reducible refine (spec_l01Src_n.calls g s0_0 t195 t196 t197 12 t198 t199 t200 t201 w0 _ ?side1 ?side2 A64.out).mono ?_); (case side1 => repeat (first | (with_reducible first | exact HI0.out | apply IsS84.alloc | apply IsS84.drewN | apply IsS84.drew | apply IsS84.set_1 | apply IsS84.set_2 | apply IsS84.set_3) | exact HI0.out)); (case side2 => repeat (first | (with_reducible first | exact HB.out | apply below_alloc | apply pw_below_drewN | apply below_drew1 | refine below_set ?_ (IsS84.ge HI0.out)) | exact HB.out)); rintro e w69 ⟨rfl, hi, hb, hk⟩; refine ⟨_, rfl, ?_⟩; have n0_ := Aside0.mk (KeepBut.trans (by repeat (first | (with_reducible first | exact HK.out | apply KeepBut.set_ | apply keep_drewN | apply keep_drew | apply keep_alloc) | exact HK.out)) hk (.inl rfl)); have n1_ := Aside0.mk (hb); have n2_ := Aside0.mk (hi); clear HK; clear HB; clear HI0; have HK := n0_; have HB := n1_; have HI0 := n2_; clear n0_ n1_ n2_; (try clear hb); (try clear hb2); (try clear hk); (try clear hi)) | ((with_reducible refine gate_dst (N := 84) rfl ?_); refine Kd.R_lit (Kd.int .i64) _ 2 ?hg (N := 84) ?hd (xs := ([wrap64 (1536 + t194), wrap64 (1568 + t198), 1584, 1585] : List Int)) (inner := [.int .i64 (wrap64 (1536 + t194)), .int .i64 (wrap64 (1568 + t198)), .int .i64 1584, .int .i64 1585]) (ok := fun _ => True) (okp := fun _ => True) ?hr ?hp (fun _ hk => hk) trivial (Below.refl _ _) (Nat.le_refl _) (by simp) ?_; (case hd => rfl); (case hg => rfl); (case hr => first | (go_simp; done) | (go_simp; rfl)); (case hp => exact (Reps.one (show Kd.M (Kd.int .i64) _ _ _ (wrap64 (1536 + t194)) [.int .i64 (wrap64 (1536 + t194))] from rfl) (Reps.one (show Kd.M (Kd.int .i64) _ _ _ (wrap64 (1568 + t198)) [.int .i64 (wrap64 (1568 + t198))] from rfl) (Reps.one (show Kd.M (Kd.int .i64) _ _ _ 1584 [.int .i64 1584] from rfl) (Reps.one (show Kd.M (Kd.int .i64) _ _ _ 1585 [.int .i64 1585] from rfl) (Reps.none _ _)))))); intro v203 w70 ho71 hb hg_ hnew_; clear hg_ hnew_; (first | rw [← Ny202.out] at ho71 | (simp only [Int.reduceToNat] at ho71; rw [← Ny202.out] at ho71)); have n0_ := Aside0.mk (Kd.R_lower ho71 (keep_size (w := w) (g := g) (row := none) (by repeat (first | (with_reducible first | exact HK.out | apply KeepBut.set_ | apply keep_drewN | apply keep_drew | apply keep_alloc) | exact HK.out)))); have n1_ := Aside0.mk (IsS84.below (by repeat (first | (with_reducible first | exact HI0.out | apply IsS84.alloc | apply IsS84.drewN | apply IsS84.drew | apply IsS84.set_1 | apply IsS84.set_2 | apply IsS84.set_3) | exact HI0.out)) hb); have n2_ := Aside0.mk (KeepBut.trans (by repeat (first | (with_reducible first | exact HK.out | apply KeepBut.set_ | apply keep_drewN | apply keep_drew | apply keep_alloc) | exact HK.out)) (KeepBut.of_below hb g none) (.inl rfl)); have n3_ := Aside0.mk (below_step (by repeat (first | (with_reducible first | exact HB.out | apply below_alloc | apply pw_below_drewN | apply below_drew1 | refine below_set ?_ (IsS84.ge HI0.out)) | exact HB.out)) hb); clear HI0; clear HK; clear HB; have HO204 := n0_; have HI0 := n1_; have HK := n2_; have HB := n3_; clear n0_ n1_ n2_ n3_; clear hb ho71) | ((with_reducible refine gate_callee (f := 67) rfl ?_); refine goesL_ (some 86) rfl rfl Tryd.func67 (by kernel_rfl) rfl #[.pointer (some ⟨g, 0, none⟩), .int .i64 4] rfl (by (try simp only [List.map_toArray, List.map_cons, List.map_nil]); first | done | rfl | (simp only [List.length_drop, List.length_take]; rfl)) ?_; (with_reducible refine (spec_l01Src_n.calls g s0_0 t199 t200 t201 4 t205 t206 t207 t208 w0 _ ?side1 ?side2 A65.out).mono ?_); (case side1 => repeat (first | (with_reducible first | exact HI0.out | apply IsS84.alloc | apply IsS84.drewN | apply IsS84.drew | apply IsS84.set_1 | apply IsS84.set_2 | apply IsS84.set_3) | exact HI0.out)); (case side2 => repeat (first | (with_reducible first | exact HB.out | apply below_alloc | apply pw_below_drewN | apply below_drew1 | refine below_set ?_ (IsS84.ge HI0.out)) | exact HB.out)); rintro e w72 ⟨rfl, hi, hb, hk⟩; refine ⟨_, rfl, ?_⟩; have n0_ := Aside0.mk (Kd.R_mono (Kd.R_keep (IsS84.apart (show IsS84 w0 _ g s0_0 t199 t200 t201 from by repeat (first | (with_reducible first | exact HI0.out | apply IsS84.alloc | apply IsS84.drewN | apply IsS84.drew | apply IsS84.set_1 | apply IsS84.set_2 | apply IsS84.set_3) | exact HI0.out)) (by (with_reducible repeat (first | apply Kd.R_alloc | apply Kd.R_drewN | apply Kd.R_drew)); exact HO204.out) (by decide)) hk (fun _ h => h.2)) (fun _ h => h.1)); have n1_ := Aside0.mk (KeepBut.trans (by repeat (first | (with_reducible first | exact HK.out | apply KeepBut.set_ | apply keep_drewN | apply keep_drew | apply keep_alloc) | exact HK.out)) hk (.inl rfl)); have n2_ := Aside0.mk (hb); have n3_ := Aside0.mk (hi); clear HO204; clear HK; clear HB; clear HI0; have HO204 := n0_; have HK := n1_; have HB := n2_; have HI0 := n3_; clear n0_ n1_ n2_ n3_; (try clear hb); (try clear hb2); (try clear hk); (try clear hi); obtain ⟨Ao73, co73, eo73⟩ := Kd.R_slice HO204.out; subst eo73; have p209 : 0 ≤ (t205 : Int) := of_decide_eq_true (by first | (with_reducible assumption) | assumption); have q209 : t205 < (y202.length : Int) := of_decide_eq_true (by first | (with_reducible assumption) | assumption); obtain ⟨ad209, e209, hx209_0⟩ := Kd.at_int (Kd.R_reads' HO204.out).2.2 t205 p209 q209; cases e209; replace p209 := eq_true p209; replace q209 := eq_true q209))
                                    go_ret
                                    exact ⟨by first | rfl | (simp [errW_none, errW_some] <;> rfl) | (simp [*, errW_none, errW_some] <;> rfl), by repeat (first | (with_reducible first | exact HI0.out | apply IsS84.alloc | apply IsS84.drewN | apply IsS84.drew | apply IsS84.set_1 | apply IsS84.set_2 | apply IsS84.set_3) | exact HI0.out), by repeat (first | (with_reducible first | exact HB.out | apply below_alloc | apply pw_below_drewN | apply below_drew1 | refine below_set ?_ (IsS84.ge HI0.out)) | exact HB.out), by repeat (first | (with_reducible first | exact HK.out | apply KeepBut.set_ | apply keep_drewN | apply keep_drew | apply keep_alloc) | exact HK.out)⟩
                                  · rw [if_neg c67] at H
                                    exact absurd H (by simp)
                                · rw [if_neg c66] at H
                                  exact absurd H (by simp)
                              · rw [if_neg c62] at H
                                have c62b0 : (t122 == 12) = false := beq_eq_false_iff_ne.mpr c62
                                have c62b1 : (t122 != 12) = true := bne_iff_ne.mpr c62
                                by_cases c74 : t122 = 13
                                · rw [if_pos c74] at H
                                  have c74b0 : (t122 == 13) = true := beq_iff_eq.mpr c74
                                  have c74b1 : (t122 != 13) = false := bne_eq_false_iff_eq.mpr c74
                                  clear c74
                                  replace H := Option.bind_eq_some_iff.mp H
                                  obtain ⟨⟨t210, t211, t212, t213⟩, A750, H⟩ := H
                                  replace H : ((spec_l01Src_n.f s0_0 t211 t212 t213 21).bind fun bt214 => ((spec_l01Src_n.f s0_0 bt214.2.1 bt214.2.2.1 bt214.2.2.2 27).bind fun bt218 => ((some (([wrap64 (1792 + t210), wrap64 (1824 + bt214.1), wrap64 (1857 + bt218.1)] : List Int) : List Int)).bind fun y222 => ((spec_l01Src_n.f s0_0 bt218.2.1 bt218.2.2.1 bt218.2.2.2 3).bind fun bt225 => (if 0 ≤ bt225.1 then (if bt225.1 < (y222.length : Int) then (some (rd y222 bt225.1, bt225.2.1, bt225.2.2.1, bt225.2.2.2)) else (none)) else (none)))))) = some (r1, r2, r3, r4) := H
                                  have A75 := Aside0.mk A750
                                  clear A750
                                  replace H := Option.bind_eq_some_iff.mp H
                                  obtain ⟨⟨t214, t215, t216, t217⟩, A760, H⟩ := H
                                  replace H : ((spec_l01Src_n.f s0_0 t215 t216 t217 27).bind fun bt218 => ((some (([wrap64 (1792 + t210), wrap64 (1824 + t214), wrap64 (1857 + bt218.1)] : List Int) : List Int)).bind fun y222 => ((spec_l01Src_n.f s0_0 bt218.2.1 bt218.2.2.1 bt218.2.2.2 3).bind fun bt225 => (if 0 ≤ bt225.1 then (if bt225.1 < (y222.length : Int) then (some (rd y222 bt225.1, bt225.2.1, bt225.2.2.1, bt225.2.2.2)) else (none)) else (none))))) = some (r1, r2, r3, r4) := H
                                  have A76 := Aside0.mk A760
                                  clear A760
                                  replace H := Option.bind_eq_some_iff.mp H
                                  obtain ⟨⟨t218, t219, t220, t221⟩, A770, H⟩ := H
                                  replace H : ((some (([wrap64 (1792 + t210), wrap64 (1824 + t214), wrap64 (1857 + t218)] : List Int) : List Int)).bind fun y222 => ((spec_l01Src_n.f s0_0 t219 t220 t221 3).bind fun bt225 => (if 0 ≤ bt225.1 then (if bt225.1 < (y222.length : Int) then (some (rd y222 bt225.1, bt225.2.1, bt225.2.2.1, bt225.2.2.2)) else (none)) else (none)))) = some (r1, r2, r3, r4) := H
                                  have A77 := Aside0.mk A770
                                  clear A770
                                  obtain ⟨y222, hy222⟩ : ∃ y_ : List Int, y_ = (([wrap64 (1792 + t210), wrap64 (1824 + t214), wrap64 (1857 + t218)] : List Int)) := ⟨_, rfl⟩
                                  replace H : ((spec_l01Src_n.f s0_0 t219 t220 t221 3).bind fun bt225 => (if 0 ≤ bt225.1 then (if bt225.1 < (y222.length : Int) then (some (rd y222 bt225.1, bt225.2.1, bt225.2.2.1, bt225.2.2.2)) else (none)) else (none))) = some (r1, r2, r3, r4) := by first | (rw [hy222]; with_reducible exact H) | (have H2_ := (Option.bind_some _ _).symm.trans H; rw [hy222]; with_reducible exact H2_) | (have H2_ := (Option.bind_some _ _).symm.trans H; with_reducible exact H2_) | with_reducible exact H | (rw [hy222]; exact H) | exact H
                                  have Ny222 := Aside0.mk hy222
                                  clear hy222
                                  replace H := Option.bind_eq_some_iff.mp H
                                  obtain ⟨⟨t225, t226, t227, t228⟩, A780, H⟩ := H
                                  replace H : (if 0 ≤ t225 then (if t225 < (y222.length : Int) then (some (rd y222 t225, t226, t227, t228)) else (none)) else (none)) = some (r1, r2, r3, r4) := H
                                  have A78 := Aside0.mk A780
                                  clear A780
                                  by_cases c79 : 0 ≤ t225
                                  · rw [if_pos c79] at H
                                    have c79b0 : decide (0 ≤ t225) = true := decide_eq_true c79
                                    clear c79
                                    by_cases c80 : t225 < (y222.length : Int)
                                    · rw [if_pos c80] at H
                                      have c80b0 : decide (t225 < (y222.length : Int)) = true := decide_eq_true c80
                                      clear c80
                                      simp only [Option.some.injEq, Prod.mk.injEq] at H
                                      obtain ⟨rfl, rfl, rfl, rfl⟩ := H
                                      go_wp2_with (first | ((with_reducible refine gate_callee (f := 67) rfl ?_); refine goesL_ (some 92) rfl rfl Tryd.func67 (by kernel_rfl) rfl #[.pointer (some ⟨g, 0, none⟩), .int .i64 19] rfl (by (try simp only [List.map_toArray, List.map_cons, List.map_nil]); first | done | rfl | (simp only [List.length_drop, List.length_take]; rfl)) ?_; (with_reducible refine (spec_l01Src_n.calls g s0_0 t123 t124 t125 19 t210 t211 t212 t213 w0 _ ?side1 ?side2 A75.out).mono ?_); (case side1 => repeat (first | (with_reducible first | exact HI0.out | apply IsS84.alloc | apply IsS84.drewN | apply IsS84.drew | apply IsS84.set_1 | apply IsS84.set_2 | apply IsS84.set_3) | exact HI0.out)); (case side2 => repeat (first | (with_reducible first | exact HB.out | apply below_alloc | apply pw_below_drewN | apply below_drew1 | refine below_set ?_ (IsS84.ge HI0.out)) | exact HB.out)); rintro e w81 ⟨rfl, hi, hb, hk⟩; refine ⟨_, rfl, ?_⟩; have n0_ := Aside0.mk (KeepBut.trans (by repeat (first | (with_reducible first | exact HK.out | apply KeepBut.set_ | apply keep_drewN | apply keep_drew | apply keep_alloc) | exact HK.out)) hk (.inl rfl)); have n1_ := Aside0.mk (hb); have n2_ := Aside0.mk (hi); clear HK; clear HB; clear HI0; have HK := n0_; have HB := n1_; have HI0 := n2_; clear n0_ n1_ n2_; (try clear hb); (try clear hb2); (try clear hk); (try clear hi)) | ((with_reducible refine gate_callee (f := 67) rfl ?_); refine goesL_ (some 95) rfl rfl Tryd.func67 (by kernel_rfl) rfl #[.pointer (some ⟨g, 0, none⟩), .int .i64 21] rfl (by (try simp only [List.map_toArray, List.map_cons, List.map_nil]); first | done | rfl | (simp only [List.length_drop, List.length_take]; rfl)) ?_; (with_reducible refine (spec_l01Src_n.calls g s0_0 t211 t212 t213 21 t214 t215 t216 t217 w0 _ ?side1 ?side2 A76.out).mono ?_); (case side1 => repeat (first | (with_reducible first | exact HI0.out | apply IsS84.alloc | apply IsS84.drewN | apply IsS84.drew | apply IsS84.set_1 | apply IsS84.set_2 | apply IsS84.set_3) | exact HI0.out)); (case side2 => repeat (first | (with_reducible first | exact HB.out | apply below_alloc | apply pw_below_drewN | apply below_drew1 | refine below_set ?_ (IsS84.ge HI0.out)) | exact HB.out)); rintro e w82 ⟨rfl, hi, hb, hk⟩; refine ⟨_, rfl, ?_⟩; have n0_ := Aside0.mk (KeepBut.trans (by repeat (first | (with_reducible first | exact HK.out | apply KeepBut.set_ | apply keep_drewN | apply keep_drew | apply keep_alloc) | exact HK.out)) hk (.inl rfl)); have n1_ := Aside0.mk (hb); have n2_ := Aside0.mk (hi); clear HK; clear HB; clear HI0; have HK := n0_; have HB := n1_; have HI0 := n2_; clear n0_ n1_ n2_; (try clear hb); (try clear hb2); (try clear hk); (try clear hi)) | ((with_reducible refine gate_callee (f := 67) rfl ?_); refine goesL_ (some 98) rfl rfl Tryd.func67 (by kernel_rfl) rfl #[.pointer (some ⟨g, 0, none⟩), .int .i64 27] rfl (by (try simp only [List.map_toArray, List.map_cons, List.map_nil]); first | done | rfl | (simp only [List.length_drop, List.length_take]; rfl)) ?_; (with_reducible refine (spec_l01Src_n.calls g s0_0 t215 t216 t217 27 t218 t219 t220 t221 w0 _ ?side1 ?side2 A77.out).mono ?_); (case side1 => repeat (first | (with_reducible first | exact HI0.out | apply IsS84.alloc | apply IsS84.drewN | apply IsS84.drew | apply IsS84.set_1 | apply IsS84.set_2 | apply IsS84.set_3) | exact HI0.out)); (case side2 => repeat (first | (with_reducible first | exact HB.out | apply below_alloc | apply pw_below_drewN | apply below_drew1 | refine below_set ?_ (IsS84.ge HI0.out)) | exact HB.out)); rintro e w83 ⟨rfl, hi, hb, hk⟩; refine ⟨_, rfl, ?_⟩; have n0_ := Aside0.mk (KeepBut.trans (by repeat (first | (with_reducible first | exact HK.out | apply KeepBut.set_ | apply keep_drewN | apply keep_drew | apply keep_alloc) | exact HK.out)) hk (.inl rfl)); have n1_ := Aside0.mk (hb); have n2_ := Aside0.mk (hi); clear HK; clear HB; clear HI0; have HK := n0_; have HB := n1_; have HI0 := n2_; clear n0_ n1_ n2_; (try clear hb); (try clear hb2); (try clear hk); (try clear hi)) | ((with_reducible refine gate_dst (N := 100) rfl ?_); refine Kd.R_lit (Kd.int .i64) _ 2 ?hg (N := 100) ?hd (xs := ([wrap64 (1792 + t210), wrap64 (1824 + t214), wrap64 (1857 + t218)] : List Int)) (inner := [.int .i64 (wrap64 (1792 + t210)), .int .i64 (wrap64 (1824 + t214)), .int .i64 (wrap64 (1857 + t218))]) (ok := fun _ => True) (okp := fun _ => True) ?hr ?hp (fun _ hk => hk) trivial (Below.refl _ _) (Nat.le_refl _) (by simp) ?_; (case hd => rfl); (case hg => rfl); (case hr => first | (go_simp; done) | (go_simp; rfl)); (case hp => exact (Reps.one (show Kd.M (Kd.int .i64) _ _ _ (wrap64 (1792 + t210)) [.int .i64 (wrap64 (1792 + t210))] from rfl) (Reps.one (show Kd.M (Kd.int .i64) _ _ _ (wrap64 (1824 + t214)) [.int .i64 (wrap64 (1824 + t214))] from rfl) (Reps.one (show Kd.M (Kd.int .i64) _ _ _ (wrap64 (1857 + t218)) [.int .i64 (wrap64 (1857 + t218))] from rfl) (Reps.none _ _))))); intro v223 w84 ho85 hb hg_ hnew_; clear hg_ hnew_; (first | rw [← Ny222.out] at ho85 | (simp only [Int.reduceToNat] at ho85; rw [← Ny222.out] at ho85)); have n0_ := Aside0.mk (Kd.R_lower ho85 (keep_size (w := w) (g := g) (row := none) (by repeat (first | (with_reducible first | exact HK.out | apply KeepBut.set_ | apply keep_drewN | apply keep_drew | apply keep_alloc) | exact HK.out)))); have n1_ := Aside0.mk (IsS84.below (by repeat (first | (with_reducible first | exact HI0.out | apply IsS84.alloc | apply IsS84.drewN | apply IsS84.drew | apply IsS84.set_1 | apply IsS84.set_2 | apply IsS84.set_3) | exact HI0.out)) hb); have n2_ := Aside0.mk (KeepBut.trans (by repeat (first | (with_reducible first | exact HK.out | apply KeepBut.set_ | apply keep_drewN | apply keep_drew | apply keep_alloc) | exact HK.out)) (KeepBut.of_below hb g none) (.inl rfl)); have n3_ := Aside0.mk (below_step (by repeat (first | (with_reducible first | exact HB.out | apply below_alloc | apply pw_below_drewN | apply below_drew1 | refine below_set ?_ (IsS84.ge HI0.out)) | exact HB.out)) hb); clear HI0; clear HK; clear HB; have HO224 := n0_; have HI0 := n1_; have HK := n2_; have HB := n3_; clear n0_ n1_ n2_ n3_; clear hb ho85) | ((with_reducible refine gate_callee (f := 67) rfl ?_); refine goesL_ (some 102) rfl rfl Tryd.func67 (by kernel_rfl) rfl #[.pointer (some ⟨g, 0, none⟩), .int .i64 3] rfl (by (try simp only [List.map_toArray, List.map_cons, List.map_nil]); first | done | rfl | (simp only [List.length_drop, List.length_take]; rfl)) ?_; (with_reducible refine (spec_l01Src_n.calls g s0_0 t219 t220 t221 3 t225 t226 t227 t228 w0 _ ?side1 ?side2 A78.out).mono ?_); (case side1 => repeat (first | (with_reducible first | exact HI0.out | apply IsS84.alloc | apply IsS84.drewN | apply IsS84.drew | apply IsS84.set_1 | apply IsS84.set_2 | apply IsS84.set_3) | exact HI0.out)); (case side2 => repeat (first | (with_reducible first | exact HB.out | apply below_alloc | apply pw_below_drewN | apply below_drew1 | refine below_set ?_ (IsS84.ge HI0.out)) | exact HB.out)); rintro e w86 ⟨rfl, hi, hb, hk⟩; refine ⟨_, rfl, ?_⟩; have n0_ := Aside0.mk (Kd.R_mono (Kd.R_keep (IsS84.apart (show IsS84 w0 _ g s0_0 t219 t220 t221 from by repeat (first | (with_reducible first | exact HI0.out | apply IsS84.alloc | apply IsS84.drewN | apply IsS84.drew | apply IsS84.set_1 | apply IsS84.set_2 | apply IsS84.set_3) | exact HI0.out)) (by (with_reducible repeat (first | apply Kd.R_alloc | apply Kd.R_drewN | apply Kd.R_drew)); exact HO224.out) (by decide)) hk (fun _ h => h.2)) (fun _ h => h.1)); have n1_ := Aside0.mk (KeepBut.trans (by repeat (first | (with_reducible first | exact HK.out | apply KeepBut.set_ | apply keep_drewN | apply keep_drew | apply keep_alloc) | exact HK.out)) hk (.inl rfl)); have n2_ := Aside0.mk (hb); have n3_ := Aside0.mk (hi); clear HO224; clear HK; clear HB; clear HI0; have HO224 := n0_; have HK := n1_; have HB := n2_; have HI0 := n3_; clear n0_ n1_ n2_ n3_; (try clear hb); (try clear hb2); (try clear hk); (try clear hi); obtain ⟨Ao87, co87, eo87⟩ := Kd.R_slice HO224.out; subst eo87; have p229 : 0 ≤ (t225 : Int) := of_decide_eq_true (by first | (with_reducible assumption) | assumption); have q229 : t225 < (y222.length : Int) := of_decide_eq_true (by first | (with_reducible assumption) | assumption); obtain ⟨ad229, e229, hx229_0⟩ := Kd.at_int (Kd.R_reads' HO224.out).2.2 t225 p229 q229; cases e229; replace p229 := eq_true p229; replace q229 := eq_true q229))
                                      go_ret
                                      exact ⟨by first | rfl | (simp [errW_none, errW_some] <;> rfl) | (simp [*, errW_none, errW_some] <;> rfl), by repeat (first | (with_reducible first | exact HI0.out | apply IsS84.alloc | apply IsS84.drewN | apply IsS84.drew | apply IsS84.set_1 | apply IsS84.set_2 | apply IsS84.set_3) | exact HI0.out), by repeat (first | (with_reducible first | exact HB.out | apply below_alloc | apply pw_below_drewN | apply below_drew1 | refine below_set ?_ (IsS84.ge HI0.out)) | exact HB.out), by repeat (first | (with_reducible first | exact HK.out | apply KeepBut.set_ | apply keep_drewN | apply keep_drew | apply keep_alloc) | exact HK.out)⟩
                                    · rw [if_neg c80] at H
                                      exact absurd H (by simp)
                                  · rw [if_neg c79] at H
                                    exact absurd H (by simp)
                                · rw [if_neg c74] at H
                                  have c74b0 : (t122 == 13) = false := beq_eq_false_iff_ne.mpr c74
                                  have c74b1 : (t122 != 13) = true := bne_iff_ne.mpr c74
                                  by_cases c88 : t122 = 14
                                  · rw [if_pos c88] at H
                                    have c88b0 : (t122 == 14) = true := beq_iff_eq.mpr c88
                                    have c88b1 : (t122 != 14) = false := bne_eq_false_iff_eq.mpr c88
                                    clear c88
                                    replace H := Option.bind_eq_some_iff.mp H
                                    obtain ⟨⟨t230, t231, t232, t233⟩, A890, H⟩ := H
                                    replace H : (some (wrap64 (2048 + t230), t231, t232, t233)) = some (r1, r2, r3, r4) := H
                                    have A89 := Aside0.mk A890
                                    clear A890
                                    simp only [Option.some.injEq, Prod.mk.injEq] at H
                                    obtain ⟨rfl, rfl, rfl, rfl⟩ := H
                                    go_wp2_with (first | ((with_reducible refine gate_callee (f := 67) rfl ?_); refine goesL_ (some 108) rfl rfl Tryd.func67 (by kernel_rfl) rfl #[.pointer (some ⟨g, 0, none⟩), .int .i64 48] rfl (by (try simp only [List.map_toArray, List.map_cons, List.map_nil]); first | done | rfl | (simp only [List.length_drop, List.length_take]; rfl)) ?_; (with_reducible refine (spec_l01Src_n.calls g s0_0 t123 t124 t125 48 t230 t231 t232 t233 w0 _ ?side1 ?side2 A89.out).mono ?_); (case side1 => repeat (first | (with_reducible first | exact HI0.out | apply IsS84.alloc | apply IsS84.drewN | apply IsS84.drew | apply IsS84.set_1 | apply IsS84.set_2 | apply IsS84.set_3) | exact HI0.out)); (case side2 => repeat (first | (with_reducible first | exact HB.out | apply below_alloc | apply pw_below_drewN | apply below_drew1 | refine below_set ?_ (IsS84.ge HI0.out)) | exact HB.out)); rintro e w90 ⟨rfl, hi, hb, hk⟩; refine ⟨_, rfl, ?_⟩; have n0_ := Aside0.mk (KeepBut.trans (by repeat (first | (with_reducible first | exact HK.out | apply KeepBut.set_ | apply keep_drewN | apply keep_drew | apply keep_alloc) | exact HK.out)) hk (.inl rfl)); have n1_ := Aside0.mk (hb); have n2_ := Aside0.mk (hi); clear HK; clear HB; clear HI0; have HK := n0_; have HB := n1_; have HI0 := n2_; clear n0_ n1_ n2_; (try clear hb); (try clear hb2); (try clear hk); (try clear hi)))
                                    go_ret
                                    exact ⟨by first | rfl | (simp [errW_none, errW_some] <;> rfl) | (simp [*, errW_none, errW_some] <;> rfl), by repeat (first | (with_reducible first | exact HI0.out | apply IsS84.alloc | apply IsS84.drewN | apply IsS84.drew | apply IsS84.set_1 | apply IsS84.set_2 | apply IsS84.set_3) | exact HI0.out), by repeat (first | (with_reducible first | exact HB.out | apply below_alloc | apply pw_below_drewN | apply below_drew1 | refine below_set ?_ (IsS84.ge HI0.out)) | exact HB.out), by repeat (first | (with_reducible first | exact HK.out | apply KeepBut.set_ | apply keep_drewN | apply keep_drew | apply keep_alloc) | exact HK.out)⟩
                                  · rw [if_neg c88] at H
                                    have c88b0 : (t122 == 14) = false := beq_eq_false_iff_ne.mpr c88
                                    have c88b1 : (t122 != 14) = true := bne_iff_ne.mpr c88
                                    have HC91 := Aside0.mk H
                                    clear H
                                    go_upto_if 110 with (fail)
                                    go_cut [110] (fun v110 wc => ∃ (kq : Nat) (x110_90 : Bool), v110 = .bool x110_90 ∧ Aside0 (spec_l01Src_point.j3 kq t122 x110_90 s0_0 t123 t124 t125 = some (r1, r2, r3, r4)) ∧ Aside0 (kq ≤ kj56) ∧ Aside0 (IsS84 w0 wc g s0_0 t123 t124 t125) ∧ Aside0 (KeepBut w wc g none) ∧ Aside0 (Below w0.heap.size w0 wc))
                                    case first =>
                                      have H := HC91.out
                                      clear HC91
                                      by_cases c92 : t122 = 15
                                      · rw [if_pos c92] at H
                                        have c92b0 : (t122 == 15) = true := beq_iff_eq.mpr c92
                                        have c92b1 : (t122 != 15) = false := bne_eq_false_iff_eq.mpr c92
                                        clear c92
                                        (first | rw [c92b0] | (simp only [i64_w, i32_w]; rw [c92b0]) | skip)
                                        have H' := Aside0.mk H
                                        clear H
                                        go_wp2
                                        go_meet
                                        case rel => exact ⟨_, ((t122 == 15)), (by first | rfl | (simp; done) | (simp [*]; done)), H', ⟨by have := HJ2.out; have := HJ44.out; have := HJ56.out; first | omega | exact Nat.le_refl _⟩, ⟨by repeat (first | (with_reducible first | exact HI0.out | apply IsS84.alloc | apply IsS84.drewN | apply IsS84.drew | apply IsS84.set_1 | apply IsS84.set_2 | apply IsS84.set_3) | exact HI0.out)⟩, ⟨by repeat (first | (with_reducible first | exact HK.out | apply KeepBut.set_ | apply keep_drewN | apply keep_drew | apply keep_alloc) | exact HK.out)⟩, ⟨by repeat (first | (with_reducible first | exact HB.out | apply below_alloc | apply pw_below_drewN | apply below_drew1 | refine below_set ?_ (IsS84.ge HI0.out)) | exact HB.out)⟩⟩
                                      · rw [if_neg c92] at H
                                        have c92b0 : (t122 == 15) = false := beq_eq_false_iff_ne.mpr c92
                                        have c92b1 : (t122 != 15) = true := bne_iff_ne.mpr c92
                                        (first | rw [c92b0] | (simp only [i64_w, i32_w]; rw [c92b0]) | skip)
                                        have H' := Aside0.mk H
                                        clear H
                                        go_wp2
                                        go_meet
                                        case rel => exact ⟨_, ((t122 == 16)), (by first | rfl | (simp; done) | (simp [*]; done)), H', ⟨by have := HJ2.out; have := HJ44.out; have := HJ56.out; first | omega | exact Nat.le_refl _⟩, ⟨by repeat (first | (with_reducible first | exact HI0.out | apply IsS84.alloc | apply IsS84.drewN | apply IsS84.drew | apply IsS84.set_1 | apply IsS84.set_2 | apply IsS84.set_3) | exact HI0.out)⟩, ⟨by repeat (first | (with_reducible first | exact HK.out | apply KeepBut.set_ | apply keep_drewN | apply keep_drew | apply keep_alloc) | exact HK.out)⟩, ⟨by repeat (first | (with_reducible first | exact HB.out | apply below_alloc | apply pw_below_drewN | apply below_drew1 | refine below_set ?_ (IsS84.ge HI0.out)) | exact HB.out)⟩⟩
                                    case rest =>
                                      clear HC91
                                      try clear c1
                                      try clear p1
                                      try clear q1
                                      try clear hx1
                                      try clear c2
                                      try clear p2
                                      try clear q2
                                      try clear hx2
                                      try clear c3
                                      try clear c4
                                      try clear c5
                                      try clear c5b0
                                      try clear c5b1
                                      try clear c6
                                      try clear c6b0
                                      try clear c6b1
                                      try clear p6
                                      try clear c7
                                      try clear c8
                                      try clear c9
                                      try clear c10
                                      try clear c10b0
                                      try clear c10b1
                                      try clear c13
                                      try clear c13b0
                                      try clear c13b1
                                      try clear p14
                                      try clear q14
                                      try clear hx14
                                      try clear c15
                                      try clear c15b0
                                      try clear c16
                                      try clear c16b0
                                      try clear p16
                                      try clear q16
                                      try clear hx16
                                      try clear p17
                                      try clear q17
                                      try clear hx17
                                      try clear p20
                                      try clear q20
                                      try clear hx20
                                      try clear c21
                                      try clear c21b0
                                      try clear c21b1
                                      try clear p22
                                      try clear q22
                                      try clear hx22
                                      try clear c27
                                      try clear c27b0
                                      try clear c28
                                      try clear c28b0
                                      try clear c37
                                      try clear c37b0
                                      try clear c37b1
                                      try clear c39
                                      try clear c39b0
                                      try clear c40
                                      try clear c40b0
                                      try clear c46
                                      try clear c46b0
                                      try clear c46b1
                                      try clear c47
                                      try clear c52
                                      try clear c52b0
                                      try clear c52b1
                                      try clear c58
                                      try clear c58b0
                                      try clear c58b1
                                      try clear c59
                                      try clear c62
                                      try clear c62b0
                                      try clear c62b1
                                      try clear p64
                                      try clear c66
                                      try clear c66b0
                                      try clear c67
                                      try clear c67b0
                                      try clear c74
                                      try clear c74b0
                                      try clear c74b1
                                      try clear c79
                                      try clear c79b0
                                      try clear c80
                                      try clear c80b0
                                      try clear c88
                                      try clear c88b0
                                      try clear c88b1
                                      try clear c92
                                      try clear c92b0
                                      try clear c92b1
                                      try clear hx141_0
                                      try clear hx165_0
                                      try clear hx173_0
                                      try clear hx209_0
                                      try clear hx229_0
                                      try clear p1
                                      try clear p14
                                      try clear p141
                                      try clear p16
                                      try clear p165
                                      try clear p17
                                      try clear p173
                                      try clear p2
                                      try clear p209
                                      try clear p229
                                      try clear p6
                                      try clear q1
                                      try clear q14
                                      try clear q141
                                      try clear q16
                                      try clear q165
                                      try clear q17
                                      try clear q173
                                      try clear q209
                                      try clear q229
                                      obtain ⟨kq, x110_90, rfl, HA, HJ90, HI0, HK, HB⟩ := hcut
                                      cases kq with
                                      | zero => exact absurd HA.out (by simp [spec_l01Src_point.j3])
                                      | succ kj90 =>
                                        have H := HA.out
                                        clear HA
                                        simp only [spec_l01Src_point.j3] at H
                                        by_cases c93 : x110_90 = true
                                        · subst c93
                                          have H1 : ((spec_l01Src_n.f s0_0 t123 t124 t125 64).bind fun bt234 => (some (wrap64 (4096 + bt234.1), bt234.2.1, bt234.2.2.1, bt234.2.2.2))) = some (r1, r2, r3, r4) := by rw [if_pos rfl] at H; exact H
                                          clear H
                                          have H := H1
                                          clear H1
                                          replace H := Option.bind_eq_some_iff.mp H
                                          obtain ⟨⟨t234, t235, t236, t237⟩, A940, H⟩ := H
                                          replace H : (some (wrap64 (4096 + t234), t235, t236, t237)) = some (r1, r2, r3, r4) := H
                                          have A94 := Aside0.mk A940
                                          clear A940
                                          simp only [Option.some.injEq, Prod.mk.injEq] at H
                                          obtain ⟨rfl, rfl, rfl, rfl⟩ := H
                                          go_wp2_with (first | ((with_reducible refine gate_callee (f := 67) rfl ?_); refine goesL_ (some 114) rfl rfl Tryd.func67 (by kernel_rfl) rfl #[.pointer (some ⟨g, 0, none⟩), .int .i64 64] rfl (by (try simp only [List.map_toArray, List.map_cons, List.map_nil]); first | done | rfl | (simp only [List.length_drop, List.length_take]; rfl)) ?_; (with_reducible refine (spec_l01Src_n.calls g s0_0 t123 t124 t125 64 t234 t235 t236 t237 w0 _ ?side1 ?side2 A94.out).mono ?_); (case side1 => repeat (first | (with_reducible first | exact HI0.out | apply IsS84.alloc | apply IsS84.drewN | apply IsS84.drew | apply IsS84.set_1 | apply IsS84.set_2 | apply IsS84.set_3) | exact HI0.out)); (case side2 => repeat (first | (with_reducible first | exact HB.out | apply below_alloc | apply pw_below_drewN | apply below_drew1 | refine below_set ?_ (IsS84.ge HI0.out)) | exact HB.out)); rintro e w95 ⟨rfl, hi, hb, hk⟩; refine ⟨_, rfl, ?_⟩; have n0_ := Aside0.mk (KeepBut.trans (by repeat (first | (with_reducible first | exact HK.out | apply KeepBut.set_ | apply keep_drewN | apply keep_drew | apply keep_alloc) | exact HK.out)) hk (.inl rfl)); have n1_ := Aside0.mk (hb); have n2_ := Aside0.mk (hi); clear HK; clear HB; clear HI0; have HK := n0_; have HB := n1_; have HI0 := n2_; clear n0_ n1_ n2_; (try clear hb); (try clear hb2); (try clear hk); (try clear hi)))
                                          go_ret
                                          exact ⟨by first | rfl | (simp [errW_none, errW_some] <;> rfl) | (simp [*, errW_none, errW_some] <;> rfl), by repeat (first | (with_reducible first | exact HI0.out | apply IsS84.alloc | apply IsS84.drewN | apply IsS84.drew | apply IsS84.set_1 | apply IsS84.set_2 | apply IsS84.set_3) | exact HI0.out), by repeat (first | (with_reducible first | exact HB.out | apply below_alloc | apply pw_below_drewN | apply below_drew1 | refine below_set ?_ (IsS84.ge HI0.out)) | exact HB.out), by repeat (first | (with_reducible first | exact HK.out | apply KeepBut.set_ | apply keep_drewN | apply keep_drew | apply keep_alloc) | exact HK.out)⟩
                                        · replace c93 := Bool.eq_false_iff.mpr c93
                                          subst c93
                                          have H1 : (if t122 = 17 then ((spec_l01Src_n.f s0_0 t123 t124 t125 64).bind fun bt238 => ((spec_l01Src_n.f s0_0 bt238.2.1 bt238.2.2.1 bt238.2.2.2 5).bind fun bt242 => ((spec_l01Src_n.f s0_0 bt242.2.1 bt242.2.2.1 bt242.2.2.2 26).bind fun bt246 => ((some (([wrap64 (7680 + bt238.1), wrap64 (7744 + bt242.1), wrap64 (7760 + bt246.1)] : List Int) : List Int)).bind fun y250 => ((spec_l01Src_n.f s0_0 bt246.2.1 bt246.2.2.1 bt246.2.2.2 3).bind fun bt253 => (if 0 ≤ bt253.1 then (if bt253.1 < (y250.length : Int) then (some (rd y250 bt253.1, bt253.2.1, bt253.2.2.1, bt253.2.2.2)) else (none)) else (none))))))) else (if t122 = 18 then ((spec_l01Src_n.f s0_0 t123 t124 t125 12).bind fun bt258 => ((some (([wrap64 (7936 + bt258.1), 7953, 7954] : List Int) : List Int)).bind fun y262 => ((spec_l01Src_n.f s0_0 bt258.2.1 bt258.2.2.1 bt258.2.2.2 3).bind fun bt265 => (if 0 ≤ bt265.1 then (if bt265.1 < (y262.length : Int) then (some (rd y262 bt265.1, bt265.2.1, bt265.2.2.1, bt265.2.2.2)) else (none)) else (none))))) else (if t122 = 19 then (spec_l01Src_point.j4 kj90 t122 (t122 == 19) s0_0 t123 t124 t125) else (spec_l01Src_point.j4 kj90 t122 (t122 == 20) s0_0 t123 t124 t125)))) = some (r1, r2, r3, r4) := by rw [if_neg (show ¬ (false = true) by decide)] at H; exact H
                                          clear H
                                          have H := H1
                                          clear H1
                                          by_cases c96 : t122 = 17
                                          · rw [if_pos c96] at H
                                            have c96b0 : (t122 == 17) = true := beq_iff_eq.mpr c96
                                            have c96b1 : (t122 != 17) = false := bne_eq_false_iff_eq.mpr c96
                                            clear c96
                                            replace H := Option.bind_eq_some_iff.mp H
                                            obtain ⟨⟨t238, t239, t240, t241⟩, A970, H⟩ := H
                                            replace H : ((spec_l01Src_n.f s0_0 t239 t240 t241 5).bind fun bt242 => ((spec_l01Src_n.f s0_0 bt242.2.1 bt242.2.2.1 bt242.2.2.2 26).bind fun bt246 => ((some (([wrap64 (7680 + t238), wrap64 (7744 + bt242.1), wrap64 (7760 + bt246.1)] : List Int) : List Int)).bind fun y250 => ((spec_l01Src_n.f s0_0 bt246.2.1 bt246.2.2.1 bt246.2.2.2 3).bind fun bt253 => (if 0 ≤ bt253.1 then (if bt253.1 < (y250.length : Int) then (some (rd y250 bt253.1, bt253.2.1, bt253.2.2.1, bt253.2.2.2)) else (none)) else (none)))))) = some (r1, r2, r3, r4) := H
                                            have A97 := Aside0.mk A970
                                            clear A970
                                            replace H := Option.bind_eq_some_iff.mp H
                                            obtain ⟨⟨t242, t243, t244, t245⟩, A980, H⟩ := H
                                            replace H : ((spec_l01Src_n.f s0_0 t243 t244 t245 26).bind fun bt246 => ((some (([wrap64 (7680 + t238), wrap64 (7744 + t242), wrap64 (7760 + bt246.1)] : List Int) : List Int)).bind fun y250 => ((spec_l01Src_n.f s0_0 bt246.2.1 bt246.2.2.1 bt246.2.2.2 3).bind fun bt253 => (if 0 ≤ bt253.1 then (if bt253.1 < (y250.length : Int) then (some (rd y250 bt253.1, bt253.2.1, bt253.2.2.1, bt253.2.2.2)) else (none)) else (none))))) = some (r1, r2, r3, r4) := H
                                            have A98 := Aside0.mk A980
                                            clear A980
                                            replace H := Option.bind_eq_some_iff.mp H
                                            obtain ⟨⟨t246, t247, t248, t249⟩, A990, H⟩ := H
                                            replace H : ((some (([wrap64 (7680 + t238), wrap64 (7744 + t242), wrap64 (7760 + t246)] : List Int) : List Int)).bind fun y250 => ((spec_l01Src_n.f s0_0 t247 t248 t249 3).bind fun bt253 => (if 0 ≤ bt253.1 then (if bt253.1 < (y250.length : Int) then (some (rd y250 bt253.1, bt253.2.1, bt253.2.2.1, bt253.2.2.2)) else (none)) else (none)))) = some (r1, r2, r3, r4) := H
                                            have A99 := Aside0.mk A990
                                            clear A990
                                            obtain ⟨y250, hy250⟩ : ∃ y_ : List Int, y_ = (([wrap64 (7680 + t238), wrap64 (7744 + t242), wrap64 (7760 + t246)] : List Int)) := ⟨_, rfl⟩
                                            replace H : ((spec_l01Src_n.f s0_0 t247 t248 t249 3).bind fun bt253 => (if 0 ≤ bt253.1 then (if bt253.1 < (y250.length : Int) then (some (rd y250 bt253.1, bt253.2.1, bt253.2.2.1, bt253.2.2.2)) else (none)) else (none))) = some (r1, r2, r3, r4) := by first | (rw [hy250]; with_reducible exact H) | (have H2_ := (Option.bind_some _ _).symm.trans H; rw [hy250]; with_reducible exact H2_) | (have H2_ := (Option.bind_some _ _).symm.trans H; with_reducible exact H2_) | with_reducible exact H | (rw [hy250]; exact H) | exact H
                                            have Ny250 := Aside0.mk hy250
                                            clear hy250
                                            replace H := Option.bind_eq_some_iff.mp H
                                            obtain ⟨⟨t253, t254, t255, t256⟩, A1000, H⟩ := H
                                            replace H : (if 0 ≤ t253 then (if t253 < (y250.length : Int) then (some (rd y250 t253, t254, t255, t256)) else (none)) else (none)) = some (r1, r2, r3, r4) := H
                                            have A100 := Aside0.mk A1000
                                            clear A1000
                                            by_cases c101 : 0 ≤ t253
                                            · rw [if_pos c101] at H
                                              have c101b0 : decide (0 ≤ t253) = true := decide_eq_true c101
                                              clear c101
                                              by_cases c102 : t253 < (y250.length : Int)
                                              · rw [if_pos c102] at H
                                                have c102b0 : decide (t253 < (y250.length : Int)) = true := decide_eq_true c102
                                                clear c102
                                                simp only [Option.some.injEq, Prod.mk.injEq] at H
                                                obtain ⟨rfl, rfl, rfl, rfl⟩ := H
                                                go_wp2_with (first | ((with_reducible refine gate_callee (f := 67) rfl ?_); refine goesL_ (some 119) rfl rfl Tryd.func67 (by kernel_rfl) rfl #[.pointer (some ⟨g, 0, none⟩), .int .i64 64] rfl (by (try simp only [List.map_toArray, List.map_cons, List.map_nil]); first | done | rfl | (simp only [List.length_drop, List.length_take]; rfl)) ?_; (with_reducible refine (spec_l01Src_n.calls g s0_0 t123 t124 t125 64 t238 t239 t240 t241 w0 _ ?side1 ?side2 A97.out).mono ?_); (case side1 => repeat (first | (with_reducible first | exact HI0.out | apply IsS84.alloc | apply IsS84.drewN | apply IsS84.drew | apply IsS84.set_1 | apply IsS84.set_2 | apply IsS84.set_3) | exact HI0.out)); (case side2 => repeat (first | (with_reducible first | exact HB.out | apply below_alloc | apply pw_below_drewN | apply below_drew1 | refine below_set ?_ (IsS84.ge HI0.out)) | exact HB.out)); rintro e w103 ⟨rfl, hi, hb, hk⟩; refine ⟨_, rfl, ?_⟩; have n0_ := Aside0.mk (KeepBut.trans (by repeat (first | (with_reducible first | exact HK.out | apply KeepBut.set_ | apply keep_drewN | apply keep_drew | apply keep_alloc) | exact HK.out)) hk (.inl rfl)); have n1_ := Aside0.mk (hb); have n2_ := Aside0.mk (hi); clear HK; clear HB; clear HI0; have HK := n0_; have HB := n1_; have HI0 := n2_; clear n0_ n1_ n2_; (try clear hb); (try clear hb2); (try clear hk); (try clear hi)) | ((with_reducible refine gate_callee (f := 67) rfl ?_); refine goesL_ (some 122) rfl rfl Tryd.func67 (by kernel_rfl) rfl #[.pointer (some ⟨g, 0, none⟩), .int .i64 5] rfl (by (try simp only [List.map_toArray, List.map_cons, List.map_nil]); first | done | rfl | (simp only [List.length_drop, List.length_take]; rfl)) ?_; (with_reducible refine (spec_l01Src_n.calls g s0_0 t239 t240 t241 5 t242 t243 t244 t245 w0 _ ?side1 ?side2 A98.out).mono ?_); (case side1 => repeat (first | (with_reducible first | exact HI0.out | apply IsS84.alloc | apply IsS84.drewN | apply IsS84.drew | apply IsS84.set_1 | apply IsS84.set_2 | apply IsS84.set_3) | exact HI0.out)); (case side2 => repeat (first | (with_reducible first | exact HB.out | apply below_alloc | apply pw_below_drewN | apply below_drew1 | refine below_set ?_ (IsS84.ge HI0.out)) | exact HB.out)); rintro e w104 ⟨rfl, hi, hb, hk⟩; refine ⟨_, rfl, ?_⟩; have n0_ := Aside0.mk (KeepBut.trans (by repeat (first | (with_reducible first | exact HK.out | apply KeepBut.set_ | apply keep_drewN | apply keep_drew | apply keep_alloc) | exact HK.out)) hk (.inl rfl)); have n1_ := Aside0.mk (hb); have n2_ := Aside0.mk (hi); clear HK; clear HB; clear HI0; have HK := n0_; have HB := n1_; have HI0 := n2_; clear n0_ n1_ n2_; (try clear hb); (try clear hb2); (try clear hk); (try clear hi)) | ((with_reducible refine gate_callee (f := 67) rfl ?_); refine goesL_ (some 125) rfl rfl Tryd.func67 (by kernel_rfl) rfl #[.pointer (some ⟨g, 0, none⟩), .int .i64 26] rfl (by (try simp only [List.map_toArray, List.map_cons, List.map_nil]); first | done | rfl | (simp only [List.length_drop, List.length_take]; rfl)) ?_; (with_reducible refine (spec_l01Src_n.calls g s0_0 t243 t244 t245 26 t246 t247 t248 t249 w0 _ ?side1 ?side2 A99.out).mono ?_); (case side1 => repeat (first | (with_reducible first | exact HI0.out | apply IsS84.alloc | apply IsS84.drewN | apply IsS84.drew | apply IsS84.set_1 | apply IsS84.set_2 | apply IsS84.set_3) | exact HI0.out)); (case side2 => repeat (first | (with_reducible first | exact HB.out | apply below_alloc | apply pw_below_drewN | apply below_drew1 | refine below_set ?_ (IsS84.ge HI0.out)) | exact HB.out)); rintro e w105 ⟨rfl, hi, hb, hk⟩; refine ⟨_, rfl, ?_⟩; have n0_ := Aside0.mk (KeepBut.trans (by repeat (first | (with_reducible first | exact HK.out | apply KeepBut.set_ | apply keep_drewN | apply keep_drew | apply keep_alloc) | exact HK.out)) hk (.inl rfl)); have n1_ := Aside0.mk (hb); have n2_ := Aside0.mk (hi); clear HK; clear HB; clear HI0; have HK := n0_; have HB := n1_; have HI0 := n2_; clear n0_ n1_ n2_; (try clear hb); (try clear hb2); (try clear hk); (try clear hi)) | ((with_reducible refine gate_dst (N := 127) rfl ?_); refine Kd.R_lit (Kd.int .i64) _ 2 ?hg (N := 127) ?hd (xs := ([wrap64 (7680 + t238), wrap64 (7744 + t242), wrap64 (7760 + t246)] : List Int)) (inner := [.int .i64 (wrap64 (7680 + t238)), .int .i64 (wrap64 (7744 + t242)), .int .i64 (wrap64 (7760 + t246))]) (ok := fun _ => True) (okp := fun _ => True) ?hr ?hp (fun _ hk => hk) trivial (Below.refl _ _) (Nat.le_refl _) (by simp) ?_; (case hd => rfl); (case hg => rfl); (case hr => first | (go_simp; done) | (go_simp; rfl)); (case hp => exact (Reps.one (show Kd.M (Kd.int .i64) _ _ _ (wrap64 (7680 + t238)) [.int .i64 (wrap64 (7680 + t238))] from rfl) (Reps.one (show Kd.M (Kd.int .i64) _ _ _ (wrap64 (7744 + t242)) [.int .i64 (wrap64 (7744 + t242))] from rfl) (Reps.one (show Kd.M (Kd.int .i64) _ _ _ (wrap64 (7760 + t246)) [.int .i64 (wrap64 (7760 + t246))] from rfl) (Reps.none _ _))))); intro v251 w106 ho107 hb hg_ hnew_; clear hg_ hnew_; (first | rw [← Ny250.out] at ho107 | (simp only [Int.reduceToNat] at ho107; rw [← Ny250.out] at ho107)); have n0_ := Aside0.mk (Kd.R_lower ho107 (keep_size (w := w) (g := g) (row := none) (by repeat (first | (with_reducible first | exact HK.out | apply KeepBut.set_ | apply keep_drewN | apply keep_drew | apply keep_alloc) | exact HK.out)))); have n1_ := Aside0.mk (IsS84.below (by repeat (first | (with_reducible first | exact HI0.out | apply IsS84.alloc | apply IsS84.drewN | apply IsS84.drew | apply IsS84.set_1 | apply IsS84.set_2 | apply IsS84.set_3) | exact HI0.out)) hb); have n2_ := Aside0.mk (KeepBut.trans (by repeat (first | (with_reducible first | exact HK.out | apply KeepBut.set_ | apply keep_drewN | apply keep_drew | apply keep_alloc) | exact HK.out)) (KeepBut.of_below hb g none) (.inl rfl)); have n3_ := Aside0.mk (below_step (by repeat (first | (with_reducible first | exact HB.out | apply below_alloc | apply pw_below_drewN | apply below_drew1 | refine below_set ?_ (IsS84.ge HI0.out)) | exact HB.out)) hb); clear HI0; clear HK; clear HB; have HO252 := n0_; have HI0 := n1_; have HK := n2_; have HB := n3_; clear n0_ n1_ n2_ n3_; clear hb ho107) | ((with_reducible refine gate_callee (f := 67) rfl ?_); refine goesL_ (some 129) rfl rfl Tryd.func67 (by kernel_rfl) rfl #[.pointer (some ⟨g, 0, none⟩), .int .i64 3] rfl (by (try simp only [List.map_toArray, List.map_cons, List.map_nil]); first | done | rfl | (simp only [List.length_drop, List.length_take]; rfl)) ?_; (with_reducible refine (spec_l01Src_n.calls g s0_0 t247 t248 t249 3 t253 t254 t255 t256 w0 _ ?side1 ?side2 A100.out).mono ?_); (case side1 => repeat (first | (with_reducible first | exact HI0.out | apply IsS84.alloc | apply IsS84.drewN | apply IsS84.drew | apply IsS84.set_1 | apply IsS84.set_2 | apply IsS84.set_3) | exact HI0.out)); (case side2 => repeat (first | (with_reducible first | exact HB.out | apply below_alloc | apply pw_below_drewN | apply below_drew1 | refine below_set ?_ (IsS84.ge HI0.out)) | exact HB.out)); rintro e w108 ⟨rfl, hi, hb, hk⟩; refine ⟨_, rfl, ?_⟩; have n0_ := Aside0.mk (Kd.R_mono (Kd.R_keep (IsS84.apart (show IsS84 w0 _ g s0_0 t247 t248 t249 from by repeat (first | (with_reducible first | exact HI0.out | apply IsS84.alloc | apply IsS84.drewN | apply IsS84.drew | apply IsS84.set_1 | apply IsS84.set_2 | apply IsS84.set_3) | exact HI0.out)) (by (with_reducible repeat (first | apply Kd.R_alloc | apply Kd.R_drewN | apply Kd.R_drew)); exact HO252.out) (by decide)) hk (fun _ h => h.2)) (fun _ h => h.1)); have n1_ := Aside0.mk (KeepBut.trans (by repeat (first | (with_reducible first | exact HK.out | apply KeepBut.set_ | apply keep_drewN | apply keep_drew | apply keep_alloc) | exact HK.out)) hk (.inl rfl)); have n2_ := Aside0.mk (hb); have n3_ := Aside0.mk (hi); clear HO252; clear HK; clear HB; clear HI0; have HO252 := n0_; have HK := n1_; have HB := n2_; have HI0 := n3_; clear n0_ n1_ n2_ n3_; (try clear hb); (try clear hb2); (try clear hk); (try clear hi); obtain ⟨Ao109, co109, eo109⟩ := Kd.R_slice HO252.out; subst eo109; have p257 : 0 ≤ (t253 : Int) := of_decide_eq_true (by first | (with_reducible assumption) | assumption); have q257 : t253 < (y250.length : Int) := of_decide_eq_true (by first | (with_reducible assumption) | assumption); obtain ⟨ad257, e257, hx257_0⟩ := Kd.at_int (Kd.R_reads' HO252.out).2.2 t253 p257 q257; cases e257; replace p257 := eq_true p257; replace q257 := eq_true q257))
                                                go_ret
                                                exact ⟨by first | rfl | (simp [errW_none, errW_some] <;> rfl) | (simp [*, errW_none, errW_some] <;> rfl), by repeat (first | (with_reducible first | exact HI0.out | apply IsS84.alloc | apply IsS84.drewN | apply IsS84.drew | apply IsS84.set_1 | apply IsS84.set_2 | apply IsS84.set_3) | exact HI0.out), by repeat (first | (with_reducible first | exact HB.out | apply below_alloc | apply pw_below_drewN | apply below_drew1 | refine below_set ?_ (IsS84.ge HI0.out)) | exact HB.out), by repeat (first | (with_reducible first | exact HK.out | apply KeepBut.set_ | apply keep_drewN | apply keep_drew | apply keep_alloc) | exact HK.out)⟩
                                              · rw [if_neg c102] at H
                                                exact absurd H (by simp)
                                            · rw [if_neg c101] at H
                                              exact absurd H (by simp)
                                          · rw [if_neg c96] at H
                                            have c96b0 : (t122 == 17) = false := beq_eq_false_iff_ne.mpr c96
                                            have c96b1 : (t122 != 17) = true := bne_iff_ne.mpr c96
                                            by_cases c110 : t122 = 18
                                            · rw [if_pos c110] at H
                                              have c110b0 : (t122 == 18) = true := beq_iff_eq.mpr c110
                                              have c110b1 : (t122 != 18) = false := bne_eq_false_iff_eq.mpr c110
                                              clear c110
                                              replace H := Option.bind_eq_some_iff.mp H
                                              obtain ⟨⟨t258, t259, t260, t261⟩, A1110, H⟩ := H
                                              replace H : ((some (([wrap64 (7936 + t258), 7953, 7954] : List Int) : List Int)).bind fun y262 => ((spec_l01Src_n.f s0_0 t259 t260 t261 3).bind fun bt265 => (if 0 ≤ bt265.1 then (if bt265.1 < (y262.length : Int) then (some (rd y262 bt265.1, bt265.2.1, bt265.2.2.1, bt265.2.2.2)) else (none)) else (none)))) = some (r1, r2, r3, r4) := H
                                              have A111 := Aside0.mk A1110
                                              clear A1110
                                              obtain ⟨y262, hy262⟩ : ∃ y_ : List Int, y_ = (([wrap64 (7936 + t258), 7953, 7954] : List Int)) := ⟨_, rfl⟩
                                              replace H : ((spec_l01Src_n.f s0_0 t259 t260 t261 3).bind fun bt265 => (if 0 ≤ bt265.1 then (if bt265.1 < (y262.length : Int) then (some (rd y262 bt265.1, bt265.2.1, bt265.2.2.1, bt265.2.2.2)) else (none)) else (none))) = some (r1, r2, r3, r4) := by first | (rw [hy262]; with_reducible exact H) | (have H2_ := (Option.bind_some _ _).symm.trans H; rw [hy262]; with_reducible exact H2_) | (have H2_ := (Option.bind_some _ _).symm.trans H; with_reducible exact H2_) | with_reducible exact H | (rw [hy262]; exact H) | exact H
                                              have Ny262 := Aside0.mk hy262
                                              clear hy262
                                              replace H := Option.bind_eq_some_iff.mp H
                                              obtain ⟨⟨t265, t266, t267, t268⟩, A1120, H⟩ := H
                                              replace H : (if 0 ≤ t265 then (if t265 < (y262.length : Int) then (some (rd y262 t265, t266, t267, t268)) else (none)) else (none)) = some (r1, r2, r3, r4) := H
                                              have A112 := Aside0.mk A1120
                                              clear A1120
                                              by_cases c113 : 0 ≤ t265
                                              · rw [if_pos c113] at H
                                                have c113b0 : decide (0 ≤ t265) = true := decide_eq_true c113
                                                clear c113
                                                by_cases c114 : t265 < (y262.length : Int)
                                                · rw [if_pos c114] at H
                                                  have c114b0 : decide (t265 < (y262.length : Int)) = true := decide_eq_true c114
                                                  clear c114
                                                  simp only [Option.some.injEq, Prod.mk.injEq] at H
                                                  obtain ⟨rfl, rfl, rfl, rfl⟩ := H
                                                  go_wp2_with (first | ((with_reducible refine gate_callee (f := 67) rfl ?_); refine goesL_ (some 135) rfl rfl Tryd.func67 (by kernel_rfl) rfl #[.pointer (some ⟨g, 0, none⟩), .int .i64 12] rfl (by (try simp only [List.map_toArray, List.map_cons, List.map_nil]); first | done | rfl | (simp only [List.length_drop, List.length_take]; rfl)) ?_; (with_reducible refine (spec_l01Src_n.calls g s0_0 t123 t124 t125 12 t258 t259 t260 t261 w0 _ ?side1 ?side2 A111.out).mono ?_); (case side1 => repeat (first | (with_reducible first | exact HI0.out | apply IsS84.alloc | apply IsS84.drewN | apply IsS84.drew | apply IsS84.set_1 | apply IsS84.set_2 | apply IsS84.set_3) | exact HI0.out)); (case side2 => repeat (first | (with_reducible first | exact HB.out | apply below_alloc | apply pw_below_drewN | apply below_drew1 | refine below_set ?_ (IsS84.ge HI0.out)) | exact HB.out)); rintro e w115 ⟨rfl, hi, hb, hk⟩; refine ⟨_, rfl, ?_⟩; have n0_ := Aside0.mk (KeepBut.trans (by repeat (first | (with_reducible first | exact HK.out | apply KeepBut.set_ | apply keep_drewN | apply keep_drew | apply keep_alloc) | exact HK.out)) hk (.inl rfl)); have n1_ := Aside0.mk (hb); have n2_ := Aside0.mk (hi); clear HK; clear HB; clear HI0; have HK := n0_; have HB := n1_; have HI0 := n2_; clear n0_ n1_ n2_; (try clear hb); (try clear hb2); (try clear hk); (try clear hi)) | ((with_reducible refine gate_dst (N := 137) rfl ?_); refine Kd.R_lit (Kd.int .i64) _ 2 ?hg (N := 137) ?hd (xs := ([wrap64 (7936 + t258), 7953, 7954] : List Int)) (inner := [.int .i64 (wrap64 (7936 + t258)), .int .i64 7953, .int .i64 7954]) (ok := fun _ => True) (okp := fun _ => True) ?hr ?hp (fun _ hk => hk) trivial (Below.refl _ _) (Nat.le_refl _) (by simp) ?_; (case hd => rfl); (case hg => rfl); (case hr => first | (go_simp; done) | (go_simp; rfl)); (case hp => exact (Reps.one (show Kd.M (Kd.int .i64) _ _ _ (wrap64 (7936 + t258)) [.int .i64 (wrap64 (7936 + t258))] from rfl) (Reps.one (show Kd.M (Kd.int .i64) _ _ _ 7953 [.int .i64 7953] from rfl) (Reps.one (show Kd.M (Kd.int .i64) _ _ _ 7954 [.int .i64 7954] from rfl) (Reps.none _ _))))); intro v263 w116 ho117 hb hg_ hnew_; clear hg_ hnew_; (first | rw [← Ny262.out] at ho117 | (simp only [Int.reduceToNat] at ho117; rw [← Ny262.out] at ho117)); have n0_ := Aside0.mk (Kd.R_lower ho117 (keep_size (w := w) (g := g) (row := none) (by repeat (first | (with_reducible first | exact HK.out | apply KeepBut.set_ | apply keep_drewN | apply keep_drew | apply keep_alloc) | exact HK.out)))); have n1_ := Aside0.mk (IsS84.below (by repeat (first | (with_reducible first | exact HI0.out | apply IsS84.alloc | apply IsS84.drewN | apply IsS84.drew | apply IsS84.set_1 | apply IsS84.set_2 | apply IsS84.set_3) | exact HI0.out)) hb); have n2_ := Aside0.mk (KeepBut.trans (by repeat (first | (with_reducible first | exact HK.out | apply KeepBut.set_ | apply keep_drewN | apply keep_drew | apply keep_alloc) | exact HK.out)) (KeepBut.of_below hb g none) (.inl rfl)); have n3_ := Aside0.mk (below_step (by repeat (first | (with_reducible first | exact HB.out | apply below_alloc | apply pw_below_drewN | apply below_drew1 | refine below_set ?_ (IsS84.ge HI0.out)) | exact HB.out)) hb); clear HI0; clear HK; clear HB; have HO264 := n0_; have HI0 := n1_; have HK := n2_; have HB := n3_; clear n0_ n1_ n2_ n3_; clear hb ho117) | ((with_reducible refine gate_callee (f := 67) rfl ?_); refine goesL_ (some 139) rfl rfl Tryd.func67 (by kernel_rfl) rfl #[.pointer (some ⟨g, 0, none⟩), .int .i64 3] rfl (by (try simp only [List.map_toArray, List.map_cons, List.map_nil]); first | done | rfl | (simp only [List.length_drop, List.length_take]; rfl)) ?_; (with_reducible refine (spec_l01Src_n.calls g s0_0 t259 t260 t261 3 t265 t266 t267 t268 w0 _ ?side1 ?side2 A112.out).mono ?_); (case side1 => repeat (first | (with_reducible first | exact HI0.out | apply IsS84.alloc | apply IsS84.drewN | apply IsS84.drew | apply IsS84.set_1 | apply IsS84.set_2 | apply IsS84.set_3) | exact HI0.out)); (case side2 => repeat (first | (with_reducible first | exact HB.out | apply below_alloc | apply pw_below_drewN | apply below_drew1 | refine below_set ?_ (IsS84.ge HI0.out)) | exact HB.out)); rintro e w118 ⟨rfl, hi, hb, hk⟩; refine ⟨_, rfl, ?_⟩; have n0_ := Aside0.mk (Kd.R_mono (Kd.R_keep (IsS84.apart (show IsS84 w0 _ g s0_0 t259 t260 t261 from by repeat (first | (with_reducible first | exact HI0.out | apply IsS84.alloc | apply IsS84.drewN | apply IsS84.drew | apply IsS84.set_1 | apply IsS84.set_2 | apply IsS84.set_3) | exact HI0.out)) (by (with_reducible repeat (first | apply Kd.R_alloc | apply Kd.R_drewN | apply Kd.R_drew)); exact HO264.out) (by decide)) hk (fun _ h => h.2)) (fun _ h => h.1)); have n1_ := Aside0.mk (KeepBut.trans (by repeat (first | (with_reducible first | exact HK.out | apply KeepBut.set_ | apply keep_drewN | apply keep_drew | apply keep_alloc) | exact HK.out)) hk (.inl rfl)); have n2_ := Aside0.mk (hb); have n3_ := Aside0.mk (hi); clear HO264; clear HK; clear HB; clear HI0; have HO264 := n0_; have HK := n1_; have HB := n2_; have HI0 := n3_; clear n0_ n1_ n2_ n3_; (try clear hb); (try clear hb2); (try clear hk); (try clear hi); obtain ⟨Ao119, co119, eo119⟩ := Kd.R_slice HO264.out; subst eo119; have p269 : 0 ≤ (t265 : Int) := of_decide_eq_true (by first | (with_reducible assumption) | assumption); have q269 : t265 < (y262.length : Int) := of_decide_eq_true (by first | (with_reducible assumption) | assumption); obtain ⟨ad269, e269, hx269_0⟩ := Kd.at_int (Kd.R_reads' HO264.out).2.2 t265 p269 q269; cases e269; replace p269 := eq_true p269; replace q269 := eq_true q269))
                                                  go_ret
                                                  exact ⟨by first | rfl | (simp [errW_none, errW_some] <;> rfl) | (simp [*, errW_none, errW_some] <;> rfl), by repeat (first | (with_reducible first | exact HI0.out | apply IsS84.alloc | apply IsS84.drewN | apply IsS84.drew | apply IsS84.set_1 | apply IsS84.set_2 | apply IsS84.set_3) | exact HI0.out), by repeat (first | (with_reducible first | exact HB.out | apply below_alloc | apply pw_below_drewN | apply below_drew1 | refine below_set ?_ (IsS84.ge HI0.out)) | exact HB.out), by repeat (first | (with_reducible first | exact HK.out | apply KeepBut.set_ | apply keep_drewN | apply keep_drew | apply keep_alloc) | exact HK.out)⟩
                                                · rw [if_neg c114] at H
                                                  exact absurd H (by simp)
                                              · rw [if_neg c113] at H
                                                exact absurd H (by simp)
                                            · rw [if_neg c110] at H
                                              have c110b0 : (t122 == 18) = false := beq_eq_false_iff_ne.mpr c110
                                              have c110b1 : (t122 != 18) = true := bne_iff_ne.mpr c110
                                              have HC120 := Aside0.mk H
                                              clear H
                                              go_upto_if 142 with (fail)
                                              go_cut [142] (fun v142 wc => ∃ (kq : Nat) (x142_119 : Bool), v142 = .bool x142_119 ∧ Aside0 (spec_l01Src_point.j4 kq t122 x142_119 s0_0 t123 t124 t125 = some (r1, r2, r3, r4)) ∧ Aside0 (kq ≤ kj90) ∧ Aside0 (IsS84 w0 wc g s0_0 t123 t124 t125) ∧ Aside0 (KeepBut w wc g none) ∧ Aside0 (Below w0.heap.size w0 wc))
                                              case first =>
                                                have H := HC120.out
                                                clear HC120
                                                by_cases c121 : t122 = 19
                                                · rw [if_pos c121] at H
                                                  have c121b0 : (t122 == 19) = true := beq_iff_eq.mpr c121
                                                  have c121b1 : (t122 != 19) = false := bne_eq_false_iff_eq.mpr c121
                                                  clear c121
                                                  (first | rw [c121b0] | (simp only [i64_w, i32_w]; rw [c121b0]) | skip)
                                                  have H' := Aside0.mk H
                                                  clear H
                                                  go_wp2
                                                  go_meet
                                                  case rel => exact ⟨_, ((t122 == 19)), (by first | rfl | (simp; done) | (simp [*]; done)), H', ⟨by have := HJ2.out; have := HJ44.out; have := HJ56.out; have := HJ90.out; first | omega | exact Nat.le_refl _⟩, ⟨by repeat (first | (with_reducible first | exact HI0.out | apply IsS84.alloc | apply IsS84.drewN | apply IsS84.drew | apply IsS84.set_1 | apply IsS84.set_2 | apply IsS84.set_3) | exact HI0.out)⟩, ⟨by repeat (first | (with_reducible first | exact HK.out | apply KeepBut.set_ | apply keep_drewN | apply keep_drew | apply keep_alloc) | exact HK.out)⟩, ⟨by repeat (first | (with_reducible first | exact HB.out | apply below_alloc | apply pw_below_drewN | apply below_drew1 | refine below_set ?_ (IsS84.ge HI0.out)) | exact HB.out)⟩⟩
                                                · rw [if_neg c121] at H
                                                  have c121b0 : (t122 == 19) = false := beq_eq_false_iff_ne.mpr c121
                                                  have c121b1 : (t122 != 19) = true := bne_iff_ne.mpr c121
                                                  (first | rw [c121b0] | (simp only [i64_w, i32_w]; rw [c121b0]) | skip)
                                                  have H' := Aside0.mk H
                                                  clear H
                                                  go_wp2
                                                  go_meet
                                                  case rel => exact ⟨_, ((t122 == 20)), (by first | rfl | (simp; done) | (simp [*]; done)), H', ⟨by have := HJ2.out; have := HJ44.out; have := HJ56.out; have := HJ90.out; first | omega | exact Nat.le_refl _⟩, ⟨by repeat (first | (with_reducible first | exact HI0.out | apply IsS84.alloc | apply IsS84.drewN | apply IsS84.drew | apply IsS84.set_1 | apply IsS84.set_2 | apply IsS84.set_3) | exact HI0.out)⟩, ⟨by repeat (first | (with_reducible first | exact HK.out | apply KeepBut.set_ | apply keep_drewN | apply keep_drew | apply keep_alloc) | exact HK.out)⟩, ⟨by repeat (first | (with_reducible first | exact HB.out | apply below_alloc | apply pw_below_drewN | apply below_drew1 | refine below_set ?_ (IsS84.ge HI0.out)) | exact HB.out)⟩⟩
                                              case rest =>
                                                clear HC120
                                                try clear c1
                                                try clear p1
                                                try clear q1
                                                try clear hx1
                                                try clear c2
                                                try clear p2
                                                try clear q2
                                                try clear hx2
                                                try clear c3
                                                try clear c4
                                                try clear c5
                                                try clear c5b0
                                                try clear c5b1
                                                try clear c6
                                                try clear c6b0
                                                try clear c6b1
                                                try clear p6
                                                try clear c7
                                                try clear c8
                                                try clear c9
                                                try clear c10
                                                try clear c10b0
                                                try clear c10b1
                                                try clear c11
                                                try clear c12
                                                try clear c13
                                                try clear c13b0
                                                try clear c13b1
                                                try clear p14
                                                try clear q14
                                                try clear hx14
                                                try clear c15
                                                try clear c15b0
                                                try clear c16
                                                try clear c16b0
                                                try clear p16
                                                try clear q16
                                                try clear hx16
                                                try clear p17
                                                try clear q17
                                                try clear hx17
                                                try clear p20
                                                try clear q20
                                                try clear hx20
                                                try clear c21
                                                try clear c21b0
                                                try clear c21b1
                                                try clear p22
                                                try clear q22
                                                try clear hx22
                                                try clear p25
                                                try clear q25
                                                try clear hx25
                                                try clear p26
                                                try clear q26
                                                try clear hx26
                                                try clear c27
                                                try clear c27b0
                                                try clear c28
                                                try clear c28b0
                                                try clear c37
                                                try clear c37b0
                                                try clear c37b1
                                                try clear c39
                                                try clear c39b0
                                                try clear c40
                                                try clear c40b0
                                                try clear c46
                                                try clear c46b0
                                                try clear c46b1
                                                try clear c47
                                                try clear c52
                                                try clear c52b0
                                                try clear c52b1
                                                try clear c58
                                                try clear c58b0
                                                try clear c58b1
                                                try clear c59
                                                try clear c62
                                                try clear c62b0
                                                try clear c62b1
                                                try clear p64
                                                try clear c66
                                                try clear c66b0
                                                try clear c67
                                                try clear c67b0
                                                try clear c74
                                                try clear c74b0
                                                try clear c74b1
                                                try clear c79
                                                try clear c79b0
                                                try clear c80
                                                try clear c80b0
                                                try clear c88
                                                try clear c88b0
                                                try clear c88b1
                                                try clear c92
                                                try clear c92b0
                                                try clear c92b1
                                                try clear c93
                                                try clear c96
                                                try clear c96b0
                                                try clear c96b1
                                                try clear c101
                                                try clear c101b0
                                                try clear c102
                                                try clear c102b0
                                                try clear c110
                                                try clear c110b0
                                                try clear c110b1
                                                try clear c113
                                                try clear c113b0
                                                try clear c114
                                                try clear c114b0
                                                try clear c121
                                                try clear c121b0
                                                try clear c121b1
                                                try clear hx141_0
                                                try clear hx165_0
                                                try clear hx173_0
                                                try clear hx209_0
                                                try clear hx229_0
                                                try clear hx257_0
                                                try clear hx269_0
                                                try clear p1
                                                try clear p14
                                                try clear p141
                                                try clear p16
                                                try clear p165
                                                try clear p17
                                                try clear p173
                                                try clear p2
                                                try clear p20
                                                try clear p209
                                                try clear p22
                                                try clear p229
                                                try clear p257
                                                try clear p269
                                                try clear p6
                                                try clear p64
                                                try clear q1
                                                try clear q14
                                                try clear q141
                                                try clear q16
                                                try clear q165
                                                try clear q17
                                                try clear q173
                                                try clear q2
                                                try clear q20
                                                try clear q209
                                                try clear q22
                                                try clear q229
                                                try clear q257
                                                try clear q269
                                                obtain ⟨kq, x142_119, rfl, HA, HJ119, HI0, HK, HB⟩ := hcut
                                                cases kq with
                                                | zero => exact absurd HA.out (by simp [spec_l01Src_point.j4])
                                                | succ kj119 =>
                                                  have H := HA.out
                                                  clear HA
                                                  simp only [spec_l01Src_point.j4] at H
                                                  by_cases c122 : x142_119 = true
                                                  · subst c122
                                                    have H1 : ((spec_l01Src_n.f s0_0 t123 t124 t125 3).bind fun bt270 => ((spec_l01Src_n.f s0_0 bt270.2.1 bt270.2.2.1 bt270.2.2.2 416).bind fun bt274 => (some (wrap64 ((wrap64 (8192 + (wrap64 (512 * bt270.1)))) + bt274.1), bt274.2.1, bt274.2.2.1, bt274.2.2.2)))) = some (r1, r2, r3, r4) := by rw [if_pos rfl] at H; exact H
                                                    clear H
                                                    have H := H1
                                                    clear H1
                                                    replace H := Option.bind_eq_some_iff.mp H
                                                    obtain ⟨⟨t270, t271, t272, t273⟩, A1230, H⟩ := H
                                                    replace H : ((spec_l01Src_n.f s0_0 t271 t272 t273 416).bind fun bt274 => (some (wrap64 ((wrap64 (8192 + (wrap64 (512 * t270)))) + bt274.1), bt274.2.1, bt274.2.2.1, bt274.2.2.2))) = some (r1, r2, r3, r4) := H
                                                    have A123 := Aside0.mk A1230
                                                    clear A1230
                                                    replace H := Option.bind_eq_some_iff.mp H
                                                    obtain ⟨⟨t274, t275, t276, t277⟩, A1240, H⟩ := H
                                                    replace H : (some (wrap64 ((wrap64 (8192 + (wrap64 (512 * t270)))) + t274), t275, t276, t277)) = some (r1, r2, r3, r4) := H
                                                    have A124 := Aside0.mk A1240
                                                    clear A1240
                                                    simp only [Option.some.injEq, Prod.mk.injEq] at H
                                                    obtain ⟨rfl, rfl, rfl, rfl⟩ := H
                                                    go_wp2_with (first | ((with_reducible refine gate_callee (f := 67) rfl ?_); refine goesL_ (some 146) rfl rfl Tryd.func67 (by kernel_rfl) rfl #[.pointer (some ⟨g, 0, none⟩), .int .i64 3] rfl (by (try simp only [List.map_toArray, List.map_cons, List.map_nil]); first | done | rfl | (simp only [List.length_drop, List.length_take]; rfl)) ?_; (with_reducible refine (spec_l01Src_n.calls g s0_0 t123 t124 t125 3 t270 t271 t272 t273 w0 _ ?side1 ?side2 A123.out).mono ?_); (case side1 => repeat (first | (with_reducible first | exact HI0.out | apply IsS84.alloc | apply IsS84.drewN | apply IsS84.drew | apply IsS84.set_1 | apply IsS84.set_2 | apply IsS84.set_3) | exact HI0.out)); (case side2 => repeat (first | (with_reducible first | exact HB.out | apply below_alloc | apply pw_below_drewN | apply below_drew1 | refine below_set ?_ (IsS84.ge HI0.out)) | exact HB.out)); rintro e w125 ⟨rfl, hi, hb, hk⟩; refine ⟨_, rfl, ?_⟩; have n0_ := Aside0.mk (KeepBut.trans (by repeat (first | (with_reducible first | exact HK.out | apply KeepBut.set_ | apply keep_drewN | apply keep_drew | apply keep_alloc) | exact HK.out)) hk (.inl rfl)); have n1_ := Aside0.mk (hb); have n2_ := Aside0.mk (hi); clear HK; clear HB; clear HI0; have HK := n0_; have HB := n1_; have HI0 := n2_; clear n0_ n1_ n2_; (try clear hb); (try clear hb2); (try clear hk); (try clear hi)) | ((with_reducible refine gate_callee (f := 67) rfl ?_); refine goesL_ (some 150) rfl rfl Tryd.func67 (by kernel_rfl) rfl #[.pointer (some ⟨g, 0, none⟩), .int .i64 416] rfl (by (try simp only [List.map_toArray, List.map_cons, List.map_nil]); first | done | rfl | (simp only [List.length_drop, List.length_take]; rfl)) ?_; (with_reducible refine (spec_l01Src_n.calls g s0_0 t271 t272 t273 416 t274 t275 t276 t277 w0 _ ?side1 ?side2 A124.out).mono ?_); (case side1 => repeat (first | (with_reducible first | exact HI0.out | apply IsS84.alloc | apply IsS84.drewN | apply IsS84.drew | apply IsS84.set_1 | apply IsS84.set_2 | apply IsS84.set_3) | exact HI0.out)); (case side2 => repeat (first | (with_reducible first | exact HB.out | apply below_alloc | apply pw_below_drewN | apply below_drew1 | refine below_set ?_ (IsS84.ge HI0.out)) | exact HB.out)); rintro e w126 ⟨rfl, hi, hb, hk⟩; refine ⟨_, rfl, ?_⟩; have n0_ := Aside0.mk (KeepBut.trans (by repeat (first | (with_reducible first | exact HK.out | apply KeepBut.set_ | apply keep_drewN | apply keep_drew | apply keep_alloc) | exact HK.out)) hk (.inl rfl)); have n1_ := Aside0.mk (hb); have n2_ := Aside0.mk (hi); clear HK; clear HB; clear HI0; have HK := n0_; have HB := n1_; have HI0 := n2_; clear n0_ n1_ n2_; (try clear hb); (try clear hb2); (try clear hk); (try clear hi)))
                                                    go_ret
                                                    exact ⟨by first | rfl | (simp [errW_none, errW_some] <;> rfl) | (simp [*, errW_none, errW_some] <;> rfl), by repeat (first | (with_reducible first | exact HI0.out | apply IsS84.alloc | apply IsS84.drewN | apply IsS84.drew | apply IsS84.set_1 | apply IsS84.set_2 | apply IsS84.set_3) | exact HI0.out), by repeat (first | (with_reducible first | exact HB.out | apply below_alloc | apply pw_below_drewN | apply below_drew1 | refine below_set ?_ (IsS84.ge HI0.out)) | exact HB.out), by repeat (first | (with_reducible first | exact HK.out | apply KeepBut.set_ | apply keep_drewN | apply keep_drew | apply keep_alloc) | exact HK.out)⟩
                                                  · replace c122 := Bool.eq_false_iff.mpr c122
                                                    subst c122
                                                    have H1 : (if t122 = 21 then ((spec_l01Src_n.f s0_0 t123 t124 t125 26).bind fun bt278 => ((spec_l01Src_n.f s0_0 bt278.2.1 bt278.2.2.1 bt278.2.2.2 26).bind fun bt282 => ((spec_l01Src_n.f s0_0 bt282.2.1 bt282.2.2.1 bt282.2.2.2 4).bind fun bt286 => ((some (([wrap64 (9728 + bt278.1), wrap64 (9984 + bt282.1), wrap64 (10032 + bt286.1)] : List Int) : List Int)).bind fun y290 => ((spec_l01Src_n.f s0_0 bt286.2.1 bt286.2.2.1 bt286.2.2.2 3).bind fun bt293 => (if 0 ≤ bt293.1 then (if bt293.1 < (y290.length : Int) then (some (rd y290 bt293.1, bt293.2.1, bt293.2.2.1, bt293.2.2.2)) else (none)) else (none))))))) else (if t122 = 22 then ((spec_l01Src_n.f s0_0 t123 t124 t125 11172).bind fun bt298 => ((spec_l01Src_n.f s0_0 bt298.2.1 bt298.2.2.1 bt298.2.2.2 2048).bind fun bt302 => ((some (([wrap64 (12288 + bt298.1), wrap64 (24576 + bt302.1)] : List Int) : List Int)).bind fun y306 => ((spec_l01Src_n.f s0_0 bt302.2.1 bt302.2.2.1 bt302.2.2.2 2).bind fun bt309 => (if 0 ≤ bt309.1 then (if bt309.1 < (y306.length : Int) then (some (rd y306 bt309.1, bt309.2.1, bt309.2.2.1, bt309.2.2.2)) else (none)) else (none)))))) else ((spec_l01Src_n.f s0_0 t123 t124 t125 12288).bind fun bt314 => ((spec_l01Src_n.f s0_0 bt314.2.1 bt314.2.2.1 bt314.2.2.2 4096).bind fun bt318 => ((spec_l01Src_n.f s0_0 bt318.2.1 bt318.2.2.1 bt318.2.2.2 32768).bind fun bt322 => ((some (([65533, wrap64 (20480 + bt314.1), wrap64 (65536 + bt318.1), 1114111, 65535, bt322.1] : List Int) : List Int)).bind fun y326 => ((spec_l01Src_n.f s0_0 bt322.2.1 bt322.2.2.1 bt322.2.2.2 6).bind fun bt329 => (if 0 ≤ bt329.1 then (if bt329.1 < (y326.length : Int) then (some (rd y326 bt329.1, bt329.2.1, bt329.2.2.1, bt329.2.2.2)) else (none)) else (none))))))))) = some (r1, r2, r3, r4) := by rw [if_neg (show ¬ (false = true) by decide)] at H; exact H
                                                    clear H
                                                    have H := H1
                                                    clear H1
                                                    by_cases c127 : t122 = 21
                                                    · rw [if_pos c127] at H
                                                      have c127b0 : (t122 == 21) = true := beq_iff_eq.mpr c127
                                                      have c127b1 : (t122 != 21) = false := bne_eq_false_iff_eq.mpr c127
                                                      clear c127
                                                      replace H := Option.bind_eq_some_iff.mp H
                                                      obtain ⟨⟨t278, t279, t280, t281⟩, A1280, H⟩ := H
                                                      replace H : ((spec_l01Src_n.f s0_0 t279 t280 t281 26).bind fun bt282 => ((spec_l01Src_n.f s0_0 bt282.2.1 bt282.2.2.1 bt282.2.2.2 4).bind fun bt286 => ((some (([wrap64 (9728 + t278), wrap64 (9984 + bt282.1), wrap64 (10032 + bt286.1)] : List Int) : List Int)).bind fun y290 => ((spec_l01Src_n.f s0_0 bt286.2.1 bt286.2.2.1 bt286.2.2.2 3).bind fun bt293 => (if 0 ≤ bt293.1 then (if bt293.1 < (y290.length : Int) then (some (rd y290 bt293.1, bt293.2.1, bt293.2.2.1, bt293.2.2.2)) else (none)) else (none)))))) = some (r1, r2, r3, r4) := H
                                                      have A128 := Aside0.mk A1280
                                                      clear A1280
                                                      replace H := Option.bind_eq_some_iff.mp H
                                                      obtain ⟨⟨t282, t283, t284, t285⟩, A1290, H⟩ := H
                                                      replace H : ((spec_l01Src_n.f s0_0 t283 t284 t285 4).bind fun bt286 => ((some (([wrap64 (9728 + t278), wrap64 (9984 + t282), wrap64 (10032 + bt286.1)] : List Int) : List Int)).bind fun y290 => ((spec_l01Src_n.f s0_0 bt286.2.1 bt286.2.2.1 bt286.2.2.2 3).bind fun bt293 => (if 0 ≤ bt293.1 then (if bt293.1 < (y290.length : Int) then (some (rd y290 bt293.1, bt293.2.1, bt293.2.2.1, bt293.2.2.2)) else (none)) else (none))))) = some (r1, r2, r3, r4) := H
                                                      have A129 := Aside0.mk A1290
                                                      clear A1290
                                                      replace H := Option.bind_eq_some_iff.mp H
                                                      obtain ⟨⟨t286, t287, t288, t289⟩, A1300, H⟩ := H
                                                      replace H : ((some (([wrap64 (9728 + t278), wrap64 (9984 + t282), wrap64 (10032 + t286)] : List Int) : List Int)).bind fun y290 => ((spec_l01Src_n.f s0_0 t287 t288 t289 3).bind fun bt293 => (if 0 ≤ bt293.1 then (if bt293.1 < (y290.length : Int) then (some (rd y290 bt293.1, bt293.2.1, bt293.2.2.1, bt293.2.2.2)) else (none)) else (none)))) = some (r1, r2, r3, r4) := H
                                                      have A130 := Aside0.mk A1300
                                                      clear A1300
                                                      obtain ⟨y290, hy290⟩ : ∃ y_ : List Int, y_ = (([wrap64 (9728 + t278), wrap64 (9984 + t282), wrap64 (10032 + t286)] : List Int)) := ⟨_, rfl⟩
                                                      replace H : ((spec_l01Src_n.f s0_0 t287 t288 t289 3).bind fun bt293 => (if 0 ≤ bt293.1 then (if bt293.1 < (y290.length : Int) then (some (rd y290 bt293.1, bt293.2.1, bt293.2.2.1, bt293.2.2.2)) else (none)) else (none))) = some (r1, r2, r3, r4) := by first | (rw [hy290]; with_reducible exact H) | (have H2_ := (Option.bind_some _ _).symm.trans H; rw [hy290]; with_reducible exact H2_) | (have H2_ := (Option.bind_some _ _).symm.trans H; with_reducible exact H2_) | with_reducible exact H | (rw [hy290]; exact H) | exact H
                                                      have Ny290 := Aside0.mk hy290
                                                      clear hy290
                                                      replace H := Option.bind_eq_some_iff.mp H
                                                      obtain ⟨⟨t293, t294, t295, t296⟩, A1310, H⟩ := H
                                                      replace H : (if 0 ≤ t293 then (if t293 < (y290.length : Int) then (some (rd y290 t293, t294, t295, t296)) else (none)) else (none)) = some (r1, r2, r3, r4) := H
                                                      have A131 := Aside0.mk A1310
                                                      clear A1310
                                                      by_cases c132 : 0 ≤ t293
                                                      · rw [if_pos c132] at H
                                                        have c132b0 : decide (0 ≤ t293) = true := decide_eq_true c132
                                                        clear c132
                                                        by_cases c133 : t293 < (y290.length : Int)
                                                        · rw [if_pos c133] at H
                                                          have c133b0 : decide (t293 < (y290.length : Int)) = true := decide_eq_true c133
                                                          clear c133
                                                          simp only [Option.some.injEq, Prod.mk.injEq] at H
                                                          obtain ⟨rfl, rfl, rfl, rfl⟩ := H
                                                          go_wp2_with (first | ((with_reducible refine gate_callee (f := 67) rfl ?_); refine goesL_ (some 155) rfl rfl Tryd.func67 (by kernel_rfl) rfl #[.pointer (some ⟨g, 0, none⟩), .int .i64 26] rfl (by (try simp only [List.map_toArray, List.map_cons, List.map_nil]); first | done | rfl | (simp only [List.length_drop, List.length_take]; rfl)) ?_; (with_reducible refine (spec_l01Src_n.calls g s0_0 t123 t124 t125 26 t278 t279 t280 t281 w0 _ ?side1 ?side2 A128.out).mono ?_); (case side1 => repeat (first | (with_reducible first | exact HI0.out | apply IsS84.alloc | apply IsS84.drewN | apply IsS84.drew | apply IsS84.set_1 | apply IsS84.set_2 | apply IsS84.set_3) | exact HI0.out)); (case side2 => repeat (first | (with_reducible first | exact HB.out | apply below_alloc | apply pw_below_drewN | apply below_drew1 | refine below_set ?_ (IsS84.ge HI0.out)) | exact HB.out)); rintro e w134 ⟨rfl, hi, hb, hk⟩; refine ⟨_, rfl, ?_⟩; have n0_ := Aside0.mk (KeepBut.trans (by repeat (first | (with_reducible first | exact HK.out | apply KeepBut.set_ | apply keep_drewN | apply keep_drew | apply keep_alloc) | exact HK.out)) hk (.inl rfl)); have n1_ := Aside0.mk (hb); have n2_ := Aside0.mk (hi); clear HK; clear HB; clear HI0; have HK := n0_; have HB := n1_; have HI0 := n2_; clear n0_ n1_ n2_; (try clear hb); (try clear hb2); (try clear hk); (try clear hi)) | ((with_reducible refine gate_callee (f := 67) rfl ?_); refine goesL_ (some 158) rfl rfl Tryd.func67 (by kernel_rfl) rfl #[.pointer (some ⟨g, 0, none⟩), .int .i64 26] rfl (by (try simp only [List.map_toArray, List.map_cons, List.map_nil]); first | done | rfl | (simp only [List.length_drop, List.length_take]; rfl)) ?_; (with_reducible refine (spec_l01Src_n.calls g s0_0 t279 t280 t281 26 t282 t283 t284 t285 w0 _ ?side1 ?side2 A129.out).mono ?_); (case side1 => repeat (first | (with_reducible first | exact HI0.out | apply IsS84.alloc | apply IsS84.drewN | apply IsS84.drew | apply IsS84.set_1 | apply IsS84.set_2 | apply IsS84.set_3) | exact HI0.out)); (case side2 => repeat (first | (with_reducible first | exact HB.out | apply below_alloc | apply pw_below_drewN | apply below_drew1 | refine below_set ?_ (IsS84.ge HI0.out)) | exact HB.out)); rintro e w135 ⟨rfl, hi, hb, hk⟩; refine ⟨_, rfl, ?_⟩; have n0_ := Aside0.mk (KeepBut.trans (by repeat (first | (with_reducible first | exact HK.out | apply KeepBut.set_ | apply keep_drewN | apply keep_drew | apply keep_alloc) | exact HK.out)) hk (.inl rfl)); have n1_ := Aside0.mk (hb); have n2_ := Aside0.mk (hi); clear HK; clear HB; clear HI0; have HK := n0_; have HB := n1_; have HI0 := n2_; clear n0_ n1_ n2_; (try clear hb); (try clear hb2); (try clear hk); (try clear hi)) | ((with_reducible refine gate_callee (f := 67) rfl ?_); refine goesL_ (some 161) rfl rfl Tryd.func67 (by kernel_rfl) rfl #[.pointer (some ⟨g, 0, none⟩), .int .i64 4] rfl (by (try simp only [List.map_toArray, List.map_cons, List.map_nil]); first | done | rfl | (simp only [List.length_drop, List.length_take]; rfl)) ?_; (with_reducible refine (spec_l01Src_n.calls g s0_0 t283 t284 t285 4 t286 t287 t288 t289 w0 _ ?side1 ?side2 A130.out).mono ?_); (case side1 => repeat (first | (with_reducible first | exact HI0.out | apply IsS84.alloc | apply IsS84.drewN | apply IsS84.drew | apply IsS84.set_1 | apply IsS84.set_2 | apply IsS84.set_3) | exact HI0.out)); (case side2 => repeat (first | (with_reducible first | exact HB.out | apply below_alloc | apply pw_below_drewN | apply below_drew1 | refine below_set ?_ (IsS84.ge HI0.out)) | exact HB.out)); rintro e w136 ⟨rfl, hi, hb, hk⟩; refine ⟨_, rfl, ?_⟩; have n0_ := Aside0.mk (KeepBut.trans (by repeat (first | (with_reducible first | exact HK.out | apply KeepBut.set_ | apply keep_drewN | apply keep_drew | apply keep_alloc) | exact HK.out)) hk (.inl rfl)); have n1_ := Aside0.mk (hb); have n2_ := Aside0.mk (hi); clear HK; clear HB; clear HI0; have HK := n0_; have HB := n1_; have HI0 := n2_; clear n0_ n1_ n2_; (try clear hb); (try clear hb2); (try clear hk); (try clear hi)) | ((with_reducible refine gate_dst (N := 163) rfl ?_); refine Kd.R_lit (Kd.int .i64) _ 2 ?hg (N := 163) ?hd (xs := ([wrap64 (9728 + t278), wrap64 (9984 + t282), wrap64 (10032 + t286)] : List Int)) (inner := [.int .i64 (wrap64 (9728 + t278)), .int .i64 (wrap64 (9984 + t282)), .int .i64 (wrap64 (10032 + t286))]) (ok := fun _ => True) (okp := fun _ => True) ?hr ?hp (fun _ hk => hk) trivial (Below.refl _ _) (Nat.le_refl _) (by simp) ?_; (case hd => rfl); (case hg => rfl); (case hr => first | (go_simp; done) | (go_simp; rfl)); (case hp => exact (Reps.one (show Kd.M (Kd.int .i64) _ _ _ (wrap64 (9728 + t278)) [.int .i64 (wrap64 (9728 + t278))] from rfl) (Reps.one (show Kd.M (Kd.int .i64) _ _ _ (wrap64 (9984 + t282)) [.int .i64 (wrap64 (9984 + t282))] from rfl) (Reps.one (show Kd.M (Kd.int .i64) _ _ _ (wrap64 (10032 + t286)) [.int .i64 (wrap64 (10032 + t286))] from rfl) (Reps.none _ _))))); intro v291 w137 ho138 hb hg_ hnew_; clear hg_ hnew_; (first | rw [← Ny290.out] at ho138 | (simp only [Int.reduceToNat] at ho138; rw [← Ny290.out] at ho138)); have n0_ := Aside0.mk (Kd.R_lower ho138 (keep_size (w := w) (g := g) (row := none) (by repeat (first | (with_reducible first | exact HK.out | apply KeepBut.set_ | apply keep_drewN | apply keep_drew | apply keep_alloc) | exact HK.out)))); have n1_ := Aside0.mk (IsS84.below (by repeat (first | (with_reducible first | exact HI0.out | apply IsS84.alloc | apply IsS84.drewN | apply IsS84.drew | apply IsS84.set_1 | apply IsS84.set_2 | apply IsS84.set_3) | exact HI0.out)) hb); have n2_ := Aside0.mk (KeepBut.trans (by repeat (first | (with_reducible first | exact HK.out | apply KeepBut.set_ | apply keep_drewN | apply keep_drew | apply keep_alloc) | exact HK.out)) (KeepBut.of_below hb g none) (.inl rfl)); have n3_ := Aside0.mk (below_step (by repeat (first | (with_reducible first | exact HB.out | apply below_alloc | apply pw_below_drewN | apply below_drew1 | refine below_set ?_ (IsS84.ge HI0.out)) | exact HB.out)) hb); clear HI0; clear HK; clear HB; have HO292 := n0_; have HI0 := n1_; have HK := n2_; have HB := n3_; clear n0_ n1_ n2_ n3_; clear hb ho138) | ((with_reducible refine gate_callee (f := 67) rfl ?_); refine goesL_ (some 165) rfl rfl Tryd.func67 (by kernel_rfl) rfl #[.pointer (some ⟨g, 0, none⟩), .int .i64 3] rfl (by (try simp only [List.map_toArray, List.map_cons, List.map_nil]); first | done | rfl | (simp only [List.length_drop, List.length_take]; rfl)) ?_; (with_reducible refine (spec_l01Src_n.calls g s0_0 t287 t288 t289 3 t293 t294 t295 t296 w0 _ ?side1 ?side2 A131.out).mono ?_); (case side1 => repeat (first | (with_reducible first | exact HI0.out | apply IsS84.alloc | apply IsS84.drewN | apply IsS84.drew | apply IsS84.set_1 | apply IsS84.set_2 | apply IsS84.set_3) | exact HI0.out)); (case side2 => repeat (first | (with_reducible first | exact HB.out | apply below_alloc | apply pw_below_drewN | apply below_drew1 | refine below_set ?_ (IsS84.ge HI0.out)) | exact HB.out)); rintro e w139 ⟨rfl, hi, hb, hk⟩; refine ⟨_, rfl, ?_⟩; have n0_ := Aside0.mk (Kd.R_mono (Kd.R_keep (IsS84.apart (show IsS84 w0 _ g s0_0 t287 t288 t289 from by repeat (first | (with_reducible first | exact HI0.out | apply IsS84.alloc | apply IsS84.drewN | apply IsS84.drew | apply IsS84.set_1 | apply IsS84.set_2 | apply IsS84.set_3) | exact HI0.out)) (by (with_reducible repeat (first | apply Kd.R_alloc | apply Kd.R_drewN | apply Kd.R_drew)); exact HO292.out) (by decide)) hk (fun _ h => h.2)) (fun _ h => h.1)); have n1_ := Aside0.mk (KeepBut.trans (by repeat (first | (with_reducible first | exact HK.out | apply KeepBut.set_ | apply keep_drewN | apply keep_drew | apply keep_alloc) | exact HK.out)) hk (.inl rfl)); have n2_ := Aside0.mk (hb); have n3_ := Aside0.mk (hi); clear HO292; clear HK; clear HB; clear HI0; have HO292 := n0_; have HK := n1_; have HB := n2_; have HI0 := n3_; clear n0_ n1_ n2_ n3_; (try clear hb); (try clear hb2); (try clear hk); (try clear hi); obtain ⟨Ao140, co140, eo140⟩ := Kd.R_slice HO292.out; subst eo140; have p297 : 0 ≤ (t293 : Int) := of_decide_eq_true (by first | (with_reducible assumption) | assumption); have q297 : t293 < (y290.length : Int) := of_decide_eq_true (by first | (with_reducible assumption) | assumption); obtain ⟨ad297, e297, hx297_0⟩ := Kd.at_int (Kd.R_reads' HO292.out).2.2 t293 p297 q297; cases e297; replace p297 := eq_true p297; replace q297 := eq_true q297))
                                                          go_ret
                                                          exact ⟨by first | rfl | (simp [errW_none, errW_some] <;> rfl) | (simp [*, errW_none, errW_some] <;> rfl), by repeat (first | (with_reducible first | exact HI0.out | apply IsS84.alloc | apply IsS84.drewN | apply IsS84.drew | apply IsS84.set_1 | apply IsS84.set_2 | apply IsS84.set_3) | exact HI0.out), by repeat (first | (with_reducible first | exact HB.out | apply below_alloc | apply pw_below_drewN | apply below_drew1 | refine below_set ?_ (IsS84.ge HI0.out)) | exact HB.out), by repeat (first | (with_reducible first | exact HK.out | apply KeepBut.set_ | apply keep_drewN | apply keep_drew | apply keep_alloc) | exact HK.out)⟩
                                                        · rw [if_neg c133] at H
                                                          exact absurd H (by simp)
                                                      · rw [if_neg c132] at H
                                                        exact absurd H (by simp)
                                                    · rw [if_neg c127] at H
                                                      have c127b0 : (t122 == 21) = false := beq_eq_false_iff_ne.mpr c127
                                                      have c127b1 : (t122 != 21) = true := bne_iff_ne.mpr c127
                                                      by_cases c141 : t122 = 22
                                                      · rw [if_pos c141] at H
                                                        have c141b0 : (t122 == 22) = true := beq_iff_eq.mpr c141
                                                        have c141b1 : (t122 != 22) = false := bne_eq_false_iff_eq.mpr c141
                                                        clear c141
                                                        replace H := Option.bind_eq_some_iff.mp H
                                                        obtain ⟨⟨t298, t299, t300, t301⟩, A1420, H⟩ := H
                                                        replace H : ((spec_l01Src_n.f s0_0 t299 t300 t301 2048).bind fun bt302 => ((some (([wrap64 (12288 + t298), wrap64 (24576 + bt302.1)] : List Int) : List Int)).bind fun y306 => ((spec_l01Src_n.f s0_0 bt302.2.1 bt302.2.2.1 bt302.2.2.2 2).bind fun bt309 => (if 0 ≤ bt309.1 then (if bt309.1 < (y306.length : Int) then (some (rd y306 bt309.1, bt309.2.1, bt309.2.2.1, bt309.2.2.2)) else (none)) else (none))))) = some (r1, r2, r3, r4) := H
                                                        have A142 := Aside0.mk A1420
                                                        clear A1420
                                                        replace H := Option.bind_eq_some_iff.mp H
                                                        obtain ⟨⟨t302, t303, t304, t305⟩, A1430, H⟩ := H
                                                        replace H : ((some (([wrap64 (12288 + t298), wrap64 (24576 + t302)] : List Int) : List Int)).bind fun y306 => ((spec_l01Src_n.f s0_0 t303 t304 t305 2).bind fun bt309 => (if 0 ≤ bt309.1 then (if bt309.1 < (y306.length : Int) then (some (rd y306 bt309.1, bt309.2.1, bt309.2.2.1, bt309.2.2.2)) else (none)) else (none)))) = some (r1, r2, r3, r4) := H
                                                        have A143 := Aside0.mk A1430
                                                        clear A1430
                                                        obtain ⟨y306, hy306⟩ : ∃ y_ : List Int, y_ = (([wrap64 (12288 + t298), wrap64 (24576 + t302)] : List Int)) := ⟨_, rfl⟩
                                                        replace H : ((spec_l01Src_n.f s0_0 t303 t304 t305 2).bind fun bt309 => (if 0 ≤ bt309.1 then (if bt309.1 < (y306.length : Int) then (some (rd y306 bt309.1, bt309.2.1, bt309.2.2.1, bt309.2.2.2)) else (none)) else (none))) = some (r1, r2, r3, r4) := by first | (rw [hy306]; with_reducible exact H) | (have H2_ := (Option.bind_some _ _).symm.trans H; rw [hy306]; with_reducible exact H2_) | (have H2_ := (Option.bind_some _ _).symm.trans H; with_reducible exact H2_) | with_reducible exact H | (rw [hy306]; exact H) | exact H
                                                        have Ny306 := Aside0.mk hy306
                                                        clear hy306
                                                        replace H := Option.bind_eq_some_iff.mp H
                                                        obtain ⟨⟨t309, t310, t311, t312⟩, A1440, H⟩ := H
                                                        replace H : (if 0 ≤ t309 then (if t309 < (y306.length : Int) then (some (rd y306 t309, t310, t311, t312)) else (none)) else (none)) = some (r1, r2, r3, r4) := H
                                                        have A144 := Aside0.mk A1440
                                                        clear A1440
                                                        by_cases c145 : 0 ≤ t309
                                                        · rw [if_pos c145] at H
                                                          have c145b0 : decide (0 ≤ t309) = true := decide_eq_true c145
                                                          clear c145
                                                          by_cases c146 : t309 < (y306.length : Int)
                                                          · rw [if_pos c146] at H
                                                            have c146b0 : decide (t309 < (y306.length : Int)) = true := decide_eq_true c146
                                                            clear c146
                                                            simp only [Option.some.injEq, Prod.mk.injEq] at H
                                                            obtain ⟨rfl, rfl, rfl, rfl⟩ := H
                                                            go_wp2_with (first | ((with_reducible refine gate_callee (f := 67) rfl ?_); refine goesL_ (some 171) rfl rfl Tryd.func67 (by kernel_rfl) rfl #[.pointer (some ⟨g, 0, none⟩), .int .i64 11172] rfl (by (try simp only [List.map_toArray, List.map_cons, List.map_nil]); first | done | rfl | (simp only [List.length_drop, List.length_take]; rfl)) ?_; (with_reducible refine (spec_l01Src_n.calls g s0_0 t123 t124 t125 11172 t298 t299 t300 t301 w0 _ ?side1 ?side2 A142.out).mono ?_); (case side1 => repeat (first | (with_reducible first | exact HI0.out | apply IsS84.alloc | apply IsS84.drewN | apply IsS84.drew | apply IsS84.set_1 | apply IsS84.set_2 | apply IsS84.set_3) | exact HI0.out)); (case side2 => repeat (first | (with_reducible first | exact HB.out | apply below_alloc | apply pw_below_drewN | apply below_drew1 | refine below_set ?_ (IsS84.ge HI0.out)) | exact HB.out)); rintro e w147 ⟨rfl, hi, hb, hk⟩; refine ⟨_, rfl, ?_⟩; have n0_ := Aside0.mk (KeepBut.trans (by repeat (first | (with_reducible first | exact HK.out | apply KeepBut.set_ | apply keep_drewN | apply keep_drew | apply keep_alloc) | exact HK.out)) hk (.inl rfl)); have n1_ := Aside0.mk (hb); have n2_ := Aside0.mk (hi); clear HK; clear HB; clear HI0; have HK := n0_; have HB := n1_; have HI0 := n2_; clear n0_ n1_ n2_; (try clear hb); (try clear hb2); (try clear hk); (try clear hi)) | ((with_reducible refine gate_callee (f := 67) rfl ?_); refine goesL_ (some 174) rfl rfl Tryd.func67 (by kernel_rfl) rfl #[.pointer (some ⟨g, 0, none⟩), .int .i64 2048] rfl (by (try simp only [List.map_toArray, List.map_cons, List.map_nil]); first | done | rfl | (simp only [List.length_drop, List.length_take]; rfl)) ?_; (with_reducible refine (spec_l01Src_n.calls g s0_0 t299 t300 t301 2048 t302 t303 t304 t305 w0 _ ?side1 ?side2 A143.out).mono ?_); (case side1 => repeat (first | (with_reducible first | exact HI0.out | apply IsS84.alloc | apply IsS84.drewN | apply IsS84.drew | apply IsS84.set_1 | apply IsS84.set_2 | apply IsS84.set_3) | exact HI0.out)); (case side2 => repeat (first | (with_reducible first | exact HB.out | apply below_alloc | apply pw_below_drewN | apply below_drew1 | refine below_set ?_ (IsS84.ge HI0.out)) | exact HB.out)); rintro e w148 ⟨rfl, hi, hb, hk⟩; refine ⟨_, rfl, ?_⟩; have n0_ := Aside0.mk (KeepBut.trans (by repeat (first | (with_reducible first | exact HK.out | apply KeepBut.set_ | apply keep_drewN | apply keep_drew | apply keep_alloc) | exact HK.out)) hk (.inl rfl)); have n1_ := Aside0.mk (hb); have n2_ := Aside0.mk (hi); clear HK; clear HB; clear HI0; have HK := n0_; have HB := n1_; have HI0 := n2_; clear n0_ n1_ n2_; (try clear hb); (try clear hb2); (try clear hk); (try clear hi)) | ((with_reducible refine gate_dst (N := 176) rfl ?_); refine Kd.R_lit (Kd.int .i64) _ 2 ?hg (N := 176) ?hd (xs := ([wrap64 (12288 + t298), wrap64 (24576 + t302)] : List Int)) (inner := [.int .i64 (wrap64 (12288 + t298)), .int .i64 (wrap64 (24576 + t302))]) (ok := fun _ => True) (okp := fun _ => True) ?hr ?hp (fun _ hk => hk) trivial (Below.refl _ _) (Nat.le_refl _) (by simp) ?_; (case hd => rfl); (case hg => rfl); (case hr => first | (go_simp; done) | (go_simp; rfl)); (case hp => exact (Reps.one (show Kd.M (Kd.int .i64) _ _ _ (wrap64 (12288 + t298)) [.int .i64 (wrap64 (12288 + t298))] from rfl) (Reps.one (show Kd.M (Kd.int .i64) _ _ _ (wrap64 (24576 + t302)) [.int .i64 (wrap64 (24576 + t302))] from rfl) (Reps.none _ _)))); intro v307 w149 ho150 hb hg_ hnew_; clear hg_ hnew_; (first | rw [← Ny306.out] at ho150 | (simp only [Int.reduceToNat] at ho150; rw [← Ny306.out] at ho150)); have n0_ := Aside0.mk (Kd.R_lower ho150 (keep_size (w := w) (g := g) (row := none) (by repeat (first | (with_reducible first | exact HK.out | apply KeepBut.set_ | apply keep_drewN | apply keep_drew | apply keep_alloc) | exact HK.out)))); have n1_ := Aside0.mk (IsS84.below (by repeat (first | (with_reducible first | exact HI0.out | apply IsS84.alloc | apply IsS84.drewN | apply IsS84.drew | apply IsS84.set_1 | apply IsS84.set_2 | apply IsS84.set_3) | exact HI0.out)) hb); have n2_ := Aside0.mk (KeepBut.trans (by repeat (first | (with_reducible first | exact HK.out | apply KeepBut.set_ | apply keep_drewN | apply keep_drew | apply keep_alloc) | exact HK.out)) (KeepBut.of_below hb g none) (.inl rfl)); have n3_ := Aside0.mk (below_step (by repeat (first | (with_reducible first | exact HB.out | apply below_alloc | apply pw_below_drewN | apply below_drew1 | refine below_set ?_ (IsS84.ge HI0.out)) | exact HB.out)) hb); clear HI0; clear HK; clear HB; have HO308 := n0_; have HI0 := n1_; have HK := n2_; have HB := n3_; clear n0_ n1_ n2_ n3_; clear hb ho150) | ((with_reducible refine gate_callee (f := 67) rfl ?_); refine goesL_ (some 178) rfl rfl Tryd.func67 (by kernel_rfl) rfl #[.pointer (some ⟨g, 0, none⟩), .int .i64 2] rfl (by (try simp only [List.map_toArray, List.map_cons, List.map_nil]); first | done | rfl | (simp only [List.length_drop, List.length_take]; rfl)) ?_; (with_reducible refine (spec_l01Src_n.calls g s0_0 t303 t304 t305 2 t309 t310 t311 t312 w0 _ ?side1 ?side2 A144.out).mono ?_); (case side1 => repeat (first | (with_reducible first | exact HI0.out | apply IsS84.alloc | apply IsS84.drewN | apply IsS84.drew | apply IsS84.set_1 | apply IsS84.set_2 | apply IsS84.set_3) | exact HI0.out)); (case side2 => repeat (first | (with_reducible first | exact HB.out | apply below_alloc | apply pw_below_drewN | apply below_drew1 | refine below_set ?_ (IsS84.ge HI0.out)) | exact HB.out)); rintro e w151 ⟨rfl, hi, hb, hk⟩; refine ⟨_, rfl, ?_⟩; have n0_ := Aside0.mk (Kd.R_mono (Kd.R_keep (IsS84.apart (show IsS84 w0 _ g s0_0 t303 t304 t305 from by repeat (first | (with_reducible first | exact HI0.out | apply IsS84.alloc | apply IsS84.drewN | apply IsS84.drew | apply IsS84.set_1 | apply IsS84.set_2 | apply IsS84.set_3) | exact HI0.out)) (by (with_reducible repeat (first | apply Kd.R_alloc | apply Kd.R_drewN | apply Kd.R_drew)); exact HO308.out) (by decide)) hk (fun _ h => h.2)) (fun _ h => h.1)); have n1_ := Aside0.mk (KeepBut.trans (by repeat (first | (with_reducible first | exact HK.out | apply KeepBut.set_ | apply keep_drewN | apply keep_drew | apply keep_alloc) | exact HK.out)) hk (.inl rfl)); have n2_ := Aside0.mk (hb); have n3_ := Aside0.mk (hi); clear HO308; clear HK; clear HB; clear HI0; have HO308 := n0_; have HK := n1_; have HB := n2_; have HI0 := n3_; clear n0_ n1_ n2_ n3_; (try clear hb); (try clear hb2); (try clear hk); (try clear hi); obtain ⟨Ao152, co152, eo152⟩ := Kd.R_slice HO308.out; subst eo152; have p313 : 0 ≤ (t309 : Int) := of_decide_eq_true (by first | (with_reducible assumption) | assumption); have q313 : t309 < (y306.length : Int) := of_decide_eq_true (by first | (with_reducible assumption) | assumption); obtain ⟨ad313, e313, hx313_0⟩ := Kd.at_int (Kd.R_reads' HO308.out).2.2 t309 p313 q313; cases e313; replace p313 := eq_true p313; replace q313 := eq_true q313))
                                                            go_ret
                                                            exact ⟨by first | rfl | (simp [errW_none, errW_some] <;> rfl) | (simp [*, errW_none, errW_some] <;> rfl), by repeat (first | (with_reducible first | exact HI0.out | apply IsS84.alloc | apply IsS84.drewN | apply IsS84.drew | apply IsS84.set_1 | apply IsS84.set_2 | apply IsS84.set_3) | exact HI0.out), by repeat (first | (with_reducible first | exact HB.out | apply below_alloc | apply pw_below_drewN | apply below_drew1 | refine below_set ?_ (IsS84.ge HI0.out)) | exact HB.out), by repeat (first | (with_reducible first | exact HK.out | apply KeepBut.set_ | apply keep_drewN | apply keep_drew | apply keep_alloc) | exact HK.out)⟩
                                                          · rw [if_neg c146] at H
                                                            exact absurd H (by simp)
                                                        · rw [if_neg c145] at H
                                                          exact absurd H (by simp)
                                                      · rw [if_neg c141] at H
                                                        have c141b0 : (t122 == 22) = false := beq_eq_false_iff_ne.mpr c141
                                                        have c141b1 : (t122 != 22) = true := bne_iff_ne.mpr c141
                                                        replace H := Option.bind_eq_some_iff.mp H
                                                        obtain ⟨⟨t314, t315, t316, t317⟩, A1530, H⟩ := H
                                                        replace H : ((spec_l01Src_n.f s0_0 t315 t316 t317 4096).bind fun bt318 => ((spec_l01Src_n.f s0_0 bt318.2.1 bt318.2.2.1 bt318.2.2.2 32768).bind fun bt322 => ((some (([65533, wrap64 (20480 + t314), wrap64 (65536 + bt318.1), 1114111, 65535, bt322.1] : List Int) : List Int)).bind fun y326 => ((spec_l01Src_n.f s0_0 bt322.2.1 bt322.2.2.1 bt322.2.2.2 6).bind fun bt329 => (if 0 ≤ bt329.1 then (if bt329.1 < (y326.length : Int) then (some (rd y326 bt329.1, bt329.2.1, bt329.2.2.1, bt329.2.2.2)) else (none)) else (none)))))) = some (r1, r2, r3, r4) := H
                                                        have A153 := Aside0.mk A1530
                                                        clear A1530
                                                        replace H := Option.bind_eq_some_iff.mp H
                                                        obtain ⟨⟨t318, t319, t320, t321⟩, A1540, H⟩ := H
                                                        replace H : ((spec_l01Src_n.f s0_0 t319 t320 t321 32768).bind fun bt322 => ((some (([65533, wrap64 (20480 + t314), wrap64 (65536 + t318), 1114111, 65535, bt322.1] : List Int) : List Int)).bind fun y326 => ((spec_l01Src_n.f s0_0 bt322.2.1 bt322.2.2.1 bt322.2.2.2 6).bind fun bt329 => (if 0 ≤ bt329.1 then (if bt329.1 < (y326.length : Int) then (some (rd y326 bt329.1, bt329.2.1, bt329.2.2.1, bt329.2.2.2)) else (none)) else (none))))) = some (r1, r2, r3, r4) := H
                                                        have A154 := Aside0.mk A1540
                                                        clear A1540
                                                        replace H := Option.bind_eq_some_iff.mp H
                                                        obtain ⟨⟨t322, t323, t324, t325⟩, A1550, H⟩ := H
                                                        replace H : ((some (([65533, wrap64 (20480 + t314), wrap64 (65536 + t318), 1114111, 65535, t322] : List Int) : List Int)).bind fun y326 => ((spec_l01Src_n.f s0_0 t323 t324 t325 6).bind fun bt329 => (if 0 ≤ bt329.1 then (if bt329.1 < (y326.length : Int) then (some (rd y326 bt329.1, bt329.2.1, bt329.2.2.1, bt329.2.2.2)) else (none)) else (none)))) = some (r1, r2, r3, r4) := H
                                                        have A155 := Aside0.mk A1550
                                                        clear A1550
                                                        obtain ⟨y326, hy326⟩ : ∃ y_ : List Int, y_ = (([65533, wrap64 (20480 + t314), wrap64 (65536 + t318), 1114111, 65535, t322] : List Int)) := ⟨_, rfl⟩
                                                        replace H : ((spec_l01Src_n.f s0_0 t323 t324 t325 6).bind fun bt329 => (if 0 ≤ bt329.1 then (if bt329.1 < (y326.length : Int) then (some (rd y326 bt329.1, bt329.2.1, bt329.2.2.1, bt329.2.2.2)) else (none)) else (none))) = some (r1, r2, r3, r4) := by first | (rw [hy326]; with_reducible exact H) | (have H2_ := (Option.bind_some _ _).symm.trans H; rw [hy326]; with_reducible exact H2_) | (have H2_ := (Option.bind_some _ _).symm.trans H; with_reducible exact H2_) | with_reducible exact H | (rw [hy326]; exact H) | exact H
                                                        have Ny326 := Aside0.mk hy326
                                                        clear hy326
                                                        replace H := Option.bind_eq_some_iff.mp H
                                                        obtain ⟨⟨t329, t330, t331, t332⟩, A1560, H⟩ := H
                                                        replace H : (if 0 ≤ t329 then (if t329 < (y326.length : Int) then (some (rd y326 t329, t330, t331, t332)) else (none)) else (none)) = some (r1, r2, r3, r4) := H
                                                        have A156 := Aside0.mk A1560
                                                        clear A1560
                                                        by_cases c157 : 0 ≤ t329
                                                        · rw [if_pos c157] at H
                                                          have c157b0 : decide (0 ≤ t329) = true := decide_eq_true c157
                                                          clear c157
                                                          by_cases c158 : t329 < (y326.length : Int)
                                                          · rw [if_pos c158] at H
                                                            have c158b0 : decide (t329 < (y326.length : Int)) = true := decide_eq_true c158
                                                            clear c158
                                                            simp only [Option.some.injEq, Prod.mk.injEq] at H
                                                            obtain ⟨rfl, rfl, rfl, rfl⟩ := H
                                                            go_wp2_with (first | ((with_reducible refine gate_callee (f := 67) rfl ?_); refine goesL_ (some 182) rfl rfl Tryd.func67 (by kernel_rfl) rfl #[.pointer (some ⟨g, 0, none⟩), .int .i64 12288] rfl (by (try simp only [List.map_toArray, List.map_cons, List.map_nil]); first | done | rfl | (simp only [List.length_drop, List.length_take]; rfl)) ?_; (with_reducible refine (spec_l01Src_n.calls g s0_0 t123 t124 t125 12288 t314 t315 t316 t317 w0 _ ?side1 ?side2 A153.out).mono ?_); (case side1 => repeat (first | (with_reducible first | exact HI0.out | apply IsS84.alloc | apply IsS84.drewN | apply IsS84.drew | apply IsS84.set_1 | apply IsS84.set_2 | apply IsS84.set_3) | exact HI0.out)); (case side2 => repeat (first | (with_reducible first | exact HB.out | apply below_alloc | apply pw_below_drewN | apply below_drew1 | refine below_set ?_ (IsS84.ge HI0.out)) | exact HB.out)); rintro e w159 ⟨rfl, hi, hb, hk⟩; refine ⟨_, rfl, ?_⟩; have n0_ := Aside0.mk (KeepBut.trans (by repeat (first | (with_reducible first | exact HK.out | apply KeepBut.set_ | apply keep_drewN | apply keep_drew | apply keep_alloc) | exact HK.out)) hk (.inl rfl)); have n1_ := Aside0.mk (hb); have n2_ := Aside0.mk (hi); clear HK; clear HB; clear HI0; have HK := n0_; have HB := n1_; have HI0 := n2_; clear n0_ n1_ n2_; (try clear hb); (try clear hb2); (try clear hk); (try clear hi)) | ((with_reducible refine gate_callee (f := 67) rfl ?_); refine goesL_ (some 185) rfl rfl Tryd.func67 (by kernel_rfl) rfl #[.pointer (some ⟨g, 0, none⟩), .int .i64 4096] rfl (by (try simp only [List.map_toArray, List.map_cons, List.map_nil]); first | done | rfl | (simp only [List.length_drop, List.length_take]; rfl)) ?_; (with_reducible refine (spec_l01Src_n.calls g s0_0 t315 t316 t317 4096 t318 t319 t320 t321 w0 _ ?side1 ?side2 A154.out).mono ?_); (case side1 => repeat (first | (with_reducible first | exact HI0.out | apply IsS84.alloc | apply IsS84.drewN | apply IsS84.drew | apply IsS84.set_1 | apply IsS84.set_2 | apply IsS84.set_3) | exact HI0.out)); (case side2 => repeat (first | (with_reducible first | exact HB.out | apply below_alloc | apply pw_below_drewN | apply below_drew1 | refine below_set ?_ (IsS84.ge HI0.out)) | exact HB.out)); rintro e w160 ⟨rfl, hi, hb, hk⟩; refine ⟨_, rfl, ?_⟩; have n0_ := Aside0.mk (KeepBut.trans (by repeat (first | (with_reducible first | exact HK.out | apply KeepBut.set_ | apply keep_drewN | apply keep_drew | apply keep_alloc) | exact HK.out)) hk (.inl rfl)); have n1_ := Aside0.mk (hb); have n2_ := Aside0.mk (hi); clear HK; clear HB; clear HI0; have HK := n0_; have HB := n1_; have HI0 := n2_; clear n0_ n1_ n2_; (try clear hb); (try clear hb2); (try clear hk); (try clear hi)) | ((with_reducible refine gate_callee (f := 67) rfl ?_); refine goesL_ (some 188) rfl rfl Tryd.func67 (by kernel_rfl) rfl #[.pointer (some ⟨g, 0, none⟩), .int .i64 32768] rfl (by (try simp only [List.map_toArray, List.map_cons, List.map_nil]); first | done | rfl | (simp only [List.length_drop, List.length_take]; rfl)) ?_; (with_reducible refine (spec_l01Src_n.calls g s0_0 t319 t320 t321 32768 t322 t323 t324 t325 w0 _ ?side1 ?side2 A155.out).mono ?_); (case side1 => repeat (first | (with_reducible first | exact HI0.out | apply IsS84.alloc | apply IsS84.drewN | apply IsS84.drew | apply IsS84.set_1 | apply IsS84.set_2 | apply IsS84.set_3) | exact HI0.out)); (case side2 => repeat (first | (with_reducible first | exact HB.out | apply below_alloc | apply pw_below_drewN | apply below_drew1 | refine below_set ?_ (IsS84.ge HI0.out)) | exact HB.out)); rintro e w161 ⟨rfl, hi, hb, hk⟩; refine ⟨_, rfl, ?_⟩; have n0_ := Aside0.mk (KeepBut.trans (by repeat (first | (with_reducible first | exact HK.out | apply KeepBut.set_ | apply keep_drewN | apply keep_drew | apply keep_alloc) | exact HK.out)) hk (.inl rfl)); have n1_ := Aside0.mk (hb); have n2_ := Aside0.mk (hi); clear HK; clear HB; clear HI0; have HK := n0_; have HB := n1_; have HI0 := n2_; clear n0_ n1_ n2_; (try clear hb); (try clear hb2); (try clear hk); (try clear hi)) | ((with_reducible refine gate_dst (N := 189) rfl ?_); refine Kd.R_lit (Kd.int .i64) _ 2 ?hg (N := 189) ?hd (xs := ([65533, wrap64 (20480 + t314), wrap64 (65536 + t318), 1114111, 65535, t322] : List Int)) (inner := [.int .i64 65533, .int .i64 (wrap64 (20480 + t314)), .int .i64 (wrap64 (65536 + t318)), .int .i64 1114111, .int .i64 65535, .int .i64 t322]) (ok := fun _ => True) (okp := fun _ => True) ?hr ?hp (fun _ hk => hk) trivial (Below.refl _ _) (Nat.le_refl _) (by simp) ?_; (case hd => rfl); (case hg => rfl); (case hr => first | (go_simp; done) | (go_simp; rfl)); (case hp => exact (Reps.one (show Kd.M (Kd.int .i64) _ _ _ 65533 [.int .i64 65533] from rfl) (Reps.one (show Kd.M (Kd.int .i64) _ _ _ (wrap64 (20480 + t314)) [.int .i64 (wrap64 (20480 + t314))] from rfl) (Reps.one (show Kd.M (Kd.int .i64) _ _ _ (wrap64 (65536 + t318)) [.int .i64 (wrap64 (65536 + t318))] from rfl) (Reps.one (show Kd.M (Kd.int .i64) _ _ _ 1114111 [.int .i64 1114111] from rfl) (Reps.one (show Kd.M (Kd.int .i64) _ _ _ 65535 [.int .i64 65535] from rfl) (Reps.one (show Kd.M (Kd.int .i64) _ _ _ t322 [.int .i64 t322] from rfl) (Reps.none _ _)))))))); intro v327 w162 ho163 hb hg_ hnew_; clear hg_ hnew_; (first | rw [← Ny326.out] at ho163 | (simp only [Int.reduceToNat] at ho163; rw [← Ny326.out] at ho163)); have n0_ := Aside0.mk (Kd.R_lower ho163 (keep_size (w := w) (g := g) (row := none) (by repeat (first | (with_reducible first | exact HK.out | apply KeepBut.set_ | apply keep_drewN | apply keep_drew | apply keep_alloc) | exact HK.out)))); have n1_ := Aside0.mk (IsS84.below (by repeat (first | (with_reducible first | exact HI0.out | apply IsS84.alloc | apply IsS84.drewN | apply IsS84.drew | apply IsS84.set_1 | apply IsS84.set_2 | apply IsS84.set_3) | exact HI0.out)) hb); have n2_ := Aside0.mk (KeepBut.trans (by repeat (first | (with_reducible first | exact HK.out | apply KeepBut.set_ | apply keep_drewN | apply keep_drew | apply keep_alloc) | exact HK.out)) (KeepBut.of_below hb g none) (.inl rfl)); have n3_ := Aside0.mk (below_step (by repeat (first | (with_reducible first | exact HB.out | apply below_alloc | apply pw_below_drewN | apply below_drew1 | refine below_set ?_ (IsS84.ge HI0.out)) | exact HB.out)) hb); clear HI0; clear HK; clear HB; have HO328 := n0_; have HI0 := n1_; have HK := n2_; have HB := n3_; clear n0_ n1_ n2_ n3_; clear hb ho163) | ((with_reducible refine gate_callee (f := 67) rfl ?_); refine goesL_ (some 191) rfl rfl Tryd.func67 (by kernel_rfl) rfl #[.pointer (some ⟨g, 0, none⟩), .int .i64 6] rfl (by (try simp only [List.map_toArray, List.map_cons, List.map_nil]); first | done | rfl | (simp only [List.length_drop, List.length_take]; rfl)) ?_; (with_reducible refine (spec_l01Src_n.calls g s0_0 t323 t324 t325 6 t329 t330 t331 t332 w0 _ ?side1 ?side2 A156.out).mono ?_); (case side1 => repeat (first | (with_reducible first | exact HI0.out | apply IsS84.alloc | apply IsS84.drewN | apply IsS84.drew | apply IsS84.set_1 | apply IsS84.set_2 | apply IsS84.set_3) | exact HI0.out)); (case side2 => repeat (first | (with_reducible first | exact HB.out | apply below_alloc | apply pw_below_drewN | apply below_drew1 | refine below_set ?_ (IsS84.ge HI0.out)) | exact HB.out)); rintro e w164 ⟨rfl, hi, hb, hk⟩; refine ⟨_, rfl, ?_⟩; have n0_ := Aside0.mk (Kd.R_mono (Kd.R_keep (IsS84.apart (show IsS84 w0 _ g s0_0 t323 t324 t325 from by repeat (first | (with_reducible first | exact HI0.out | apply IsS84.alloc | apply IsS84.drewN | apply IsS84.drew | apply IsS84.set_1 | apply IsS84.set_2 | apply IsS84.set_3) | exact HI0.out)) (by (with_reducible repeat (first | apply Kd.R_alloc | apply Kd.R_drewN | apply Kd.R_drew)); exact HO328.out) (by decide)) hk (fun _ h => h.2)) (fun _ h => h.1)); have n1_ := Aside0.mk (KeepBut.trans (by repeat (first | (with_reducible first | exact HK.out | apply KeepBut.set_ | apply keep_drewN | apply keep_drew | apply keep_alloc) | exact HK.out)) hk (.inl rfl)); have n2_ := Aside0.mk (hb); have n3_ := Aside0.mk (hi); clear HO328; clear HK; clear HB; clear HI0; have HO328 := n0_; have HK := n1_; have HB := n2_; have HI0 := n3_; clear n0_ n1_ n2_ n3_; (try clear hb); (try clear hb2); (try clear hk); (try clear hi); obtain ⟨Ao165, co165, eo165⟩ := Kd.R_slice HO328.out; subst eo165; have p333 : 0 ≤ (t329 : Int) := of_decide_eq_true (by first | (with_reducible assumption) | assumption); have q333 : t329 < (y326.length : Int) := of_decide_eq_true (by first | (with_reducible assumption) | assumption); obtain ⟨ad333, e333, hx333_0⟩ := Kd.at_int (Kd.R_reads' HO328.out).2.2 t329 p333 q333; cases e333; replace p333 := eq_true p333; replace q333 := eq_true q333))
                                                            go_ret
                                                            exact ⟨by first | rfl | (simp [errW_none, errW_some] <;> rfl) | (simp [*, errW_none, errW_some] <;> rfl), by repeat (first | (with_reducible first | exact HI0.out | apply IsS84.alloc | apply IsS84.drewN | apply IsS84.drew | apply IsS84.set_1 | apply IsS84.set_2 | apply IsS84.set_3) | exact HI0.out), by repeat (first | (with_reducible first | exact HB.out | apply below_alloc | apply pw_below_drewN | apply below_drew1 | refine below_set ?_ (IsS84.ge HI0.out)) | exact HB.out), by repeat (first | (with_reducible first | exact HK.out | apply KeepBut.set_ | apply keep_drewN | apply keep_drew | apply keep_alloc) | exact HK.out)⟩
                                                          · rw [if_neg c158] at H
                                                            exact absurd H (by simp)
                                                        · rw [if_neg c157] at H
                                                          exact absurd H (by simp)

set_option maxHeartbeats 8000000 in
theorem spec_l01Src_point.tot (k : Nat) (l : List Int) (a m z : Int) (hl : l.length ≤ 140737488355328) (h0 : 0 ≤ a) (h1 : a ≤ (l.length : Int)) :
    YtphjfenhnhfakaaDoorPts.Tot (spec_l01Src_point.f (k + 9) l a m z) (fun r => 0 ≤ r.2.1 ∧ r.2.1 ≤ (l.length : Int) ∧ r.2.2.2 = z) := by
  unfold spec_l01Src_point.f
  refine YtphjfenhnhfakaaDoorPts.Tot.bind (spec_l01Src_n.tot l a m z 24 hl h0 h1 (by decide)) ?_
  rintro ⟨v, a1, m1, z1⟩ ⟨h2, h3, h4, h5, h6⟩
  dsimp only at h2 h3 h4 h5 h6 ⊢
  subst h6
  clear h0 h1
  have leaf : ∀ (b c d e : Int), 0 ≤ c ∧ c ≤ (l.length : Int) ∧ e = z1 → YtphjfenhnhfakaaDoorPts.Tot (some (b, c, d, e)) (fun r : Int × Int × Int × Int => 0 ≤ r.2.1 ∧ r.2.1 ≤ (l.length : Int) ∧ r.2.2.2 = z1) := fun _ _ _ _ h => YtphjfenhnhfakaaDoorPts.Tot.mk h
  repeat' first
    | exact leaf _ _ _ _ ⟨by assumption, by assumption, rfl⟩
    | (refine YtphjfenhnhfakaaDoorPts.Tot.bind (spec_l01Src_n.tot l _ _ _ _ hl (by assumption) (by assumption) (by decide)) ?_; rintro ⟨w, aw, mw, zw⟩ ⟨q1, q2, q3, q4, q5⟩; dsimp only at q1 q2 q3 q4 q5 ⊢; subst q5)
    | (rw [Option.bind_some]; dsimp only [List.length_cons, List.length_nil])
    | (refine YtphjfenhnhfakaaDoorPts.Tot.ite (fun hc => ?_) (fun hc => ?_))
    | (simp only [spec_l01Src_point.j0])
    | (simp only [spec_l01Src_point.j1])
    | (simp only [spec_l01Src_point.j2])
    | (simp only [spec_l01Src_point.j3])
    | (simp only [spec_l01Src_point.j4])
    | (exfalso; omega)

end Go.Proofs.YtphjfenhnhfakaaDoor.QFnDetected
