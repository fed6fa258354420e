/- A plain text of the law FnNormer, what the law uses of it, taken out by a program of this session's (wip/tool/prune.py). -/
import Derived.Test.YtiabgmddnddeiaaDoorProg
import Derived.Below
import Derived.Deep.Draws
import Derived.Deep.AppendLies
import Derived.Maps.AppendAt
import Derived.OwnWalk
import Derived.Laws.BytesArg
import Derived.Laws.MakeOwn
import Derived.Laws.OwnMore
import Derived.Deep.OwnRows
import Derived.Tactics
import Derived.Lib.ConvBytes
import Derived.Laws.Slices
import Derived.WalkKit
import Derived.KernelRfl
import Derived.RowKit3
import Derived.Deep.LoopGhost
import Derived.Deep.QuietTactic
import Derived.BigQuiet
import Derived.WideLaws
import Derived.Deep.DeepCutAuto
import Derived.Deep.CutBlock
import Derived.Deep.RegionHeld3
import Derived.Laws.Rows
import Derived.Lib.AppendStr
import Derived.ArgAppend
import Derived.Laws.IdiomCopy
import Derived.OrdersHeld
import Derived.Laws.BitsLemmas
import Derived.RowKit
import Derived.Test.YtiabgmddnddeiaaDoorVFnNormerPts
import Derived.Test.YtiabgmddnddeiaaDoorShelf
import Derived.Test.YtiabgmddnddeiaaDoorVFnNormerSrt
import Derived.RegionTactic
import Derived.ChangeAlike
import Derived.Deep.Light
import Derived.Test.YtiabgmddnddeiaaDoorVFnNormerW0
import Derived.Test.YtiabgmddnddeiaaDoorVFnNormerSorA
set_option linter.unusedVariables false
set_option linter.unusedSimpArgs false
namespace Go.Proofs.YtiabgmddnddeiaaDoor.Sor
open Go.RowKit Go.Proofs.YtiabgmddnddeiaaDoorW.PrintWords Go.Proofs.YtiabgmddnddeiaaDoorW.PrintLast Go.Proofs.YtiabgmddnddeiaaDoorW.PrintMore YtiabgmddnddeiaaDoorSrt
set_option maxHeartbeats 4000000 in
set_option maxRecDepth 100000 in
theorem symR1 (key : Int → Int) (hK : Cmp key) (g o n c cap : Nat) (a m b : Nat) (P : List Int) (x : Int) (Y Q : List Int) (W : World) (base : Nat) (ok : Nat → Prop) (hR : Rw W base ok g cap (P ++ (x :: (Y ++ Q)))) (hm : a + 1 = m) (hb : m + Y.length = b) (hY : srt key Y) (ha : P.length = o + a) (hbn : b ≤ n) (hn : n ≤ 1099511627776) :
    Calls Tryd.prog 246 #[.slice (some ⟨g, o, none⟩) n c, .int .i64 a, .int .i64 m, .int .i64 b, .func (.func 171) #[] #[]] W fun e w' => e = .returned (.tuple #[]) ∧ ∃ Z, srt key Z ∧ same key (x :: Y) Z ∧ Rw w' base ok g cap (P ++ (Z ++ Q)) ∧ W.grownBy w' (some g) := by
  have HR := Aside0.mk hR
  clear hR
  have HY := Aside0.mk hY
  clear hY
  go_enter Tryd.func246, Tryd.ntmps246
  have h1 : ((m : Int) - a = 1) = True := eq_true (by omega)
  go_wp2
  go_loopw [10, 11] (fun v10 v11 wr => ∃ (i j : Nat) (Y1 M Y2 : List Int), v10 = .int .i64 i ∧ v11 = .int .i64 j ∧ m + Y1.length = i ∧ i + M.length = j ∧ j + Y2.length = b ∧ Aside0 (Y = Y1 ++ (M ++ Y2)) ∧ Aside0 (∀ z ∈ Y1, key z < key x) ∧ Aside0 (∀ z ∈ Y2, key x ≤ key z) ∧ Aside0 (Rw wr base ok g cap (P ++ (x :: (Y ++ Q)))) ∧ Aside0 (W.grownBy wr (some g))) (fun v10 v11 _ => (intOf v11).toNat - (intOf v10).toNat)
  case atStart => exact ⟨m, b, [], Y, [], by go_num, by go_num, by simp, by omega, by simp, ⟨by simp⟩, ⟨by simp⟩, ⟨by simp⟩, HR, ⟨World.grownBy.refl W _⟩⟩
  case round =>
    obtain ⟨i, j, Y1, M, Y2, rfl, rfl, q1, q2, q3, HE, HL, HU, HM, HG⟩ := hrel
    clear HR
    by_cases hlt : i < j
    · obtain ⟨h, hh⟩ : ∃ h, (i + j) / 2 = h := ⟨_, rfl⟩
      obtain ⟨Ma, Mb', e1, l1, l2⟩ := cut (l := M) (h - i) (by omega)
      obtain ⟨z, Mb, rfl⟩ : ∃ z t, Mb' = z :: t := by cases Mb' with
        | nil => simp at l2; omega
        | cons z t => exact ⟨z, t, rfl⟩
      subst e1
      rw [List.length_append, List.length_cons] at q2
      have k0 := hK.1 x
      have k1 := hK.1 z
      have hm := HM.out
      have ee : P ++ (x :: (Y ++ Q)) = P ++ x :: ((Y1 ++ Ma) ++ z :: ((Mb ++ Y2) ++ Q)) := by rw [HE.out]; simp
      rw [ee] at hm
      obtain ⟨t1, t2, -⟩ := two P (Y1 ++ Ma) ((Mb ++ Y2) ++ Q) x z
      have p2 : P.length + 1 + (Y1 ++ Ma).length = o + h := by rw [List.length_append]; omega
      have ln : (P ++ x :: ((Y1 ++ Ma) ++ z :: ((Mb ++ Y2) ++ Q))).length = o + h + 1 + (Mb ++ Y2 ++ Q).length := by
        rw [← p2]; simp only [List.length_append, List.length_cons]; omega
      rw [ha] at t1
      rw [p2] at t2
      obtain ⟨c1, f1⟩ := hm.at_ (o + a) (by rw [ln]; omega)
      obtain ⟨c2, f2⟩ := hm.at_ (o + h) (by rw [ln]; omega)
      rw [t1] at c1
      rw [t2] at c2
      clear hm t1 t2 p2 ln ee
      rw [List.length_cons] at l2
      have i0 : (0 : Int) ≤ h := by omega
      have i1 : (h : Int) < (n : Int) := by omega
      have i3 : (0 : Int) ≤ (a : Int) := by omega
      have i4 : (a : Int) < (n : Int) := by omega
      have i9 : IntKind.i64.wrap (key z - key x) = key z - key x := by rw [IntKind.wrap_i64]; omega
      have e5 : ((i : Int) + j) / 2 = h := by omega
      go_wp2
      by_cases hc : key z < key x
      · have i7 : (key z - key x < 0) = True := eq_true (by omega)
        go_quiet (exact hK.quiet z x _ _)
        go_wp2
        go_roundw
        case rel =>
          refine ⟨h + 1, j, Y1 ++ Ma ++ [z], Mb, Y2, by go_num, rfl, by simp only [List.length_append, List.length_cons, List.length_nil]; omega, by omega, q3, ⟨by rw [HE.out]; simp⟩, ⟨?_⟩, HU, ⟨?_⟩, ⟨?_⟩⟩
          · intro u hu
            have hy := HY.out
            rw [HE.out] at hy
            rcases List.mem_append.1 hu with hu | hu
            · have : key u ≤ key z := by
                have e6 : Y1 ++ (Ma ++ z :: Mb ++ Y2) = (Y1 ++ Ma) ++ (z :: Mb ++ Y2) := by simp
                rw [e6] at hy
                exact hy.cross u hu z (by simp)
              omega
            · rw [List.mem_singleton.1 hu]; exact hc
          · exact HM.out.drewN _
          · exact gr_drewN HG.out _
        case measure => simp [intOf]; omega
      · have i7 : (key z - key x < 0) = False := eq_false (by omega)
        go_quiet (exact hK.quiet z x _ _)
        go_wp2
        go_roundw
        case rel =>
          refine ⟨i, h, Y1, Ma, z :: Mb ++ Y2, rfl, rfl, q1, by omega, by simp only [List.length_append, List.length_cons]; omega, ⟨by rw [HE.out]; simp⟩, HL, ⟨?_⟩, ⟨?_⟩, ⟨?_⟩⟩
          · intro u hu
            have hy := HY.out
            rw [HE.out] at hy
            have e6 : Y1 ++ (Ma ++ z :: Mb ++ Y2) = (Y1 ++ Ma ++ [z]) ++ (Mb ++ Y2) := by simp
            rcases List.mem_cons.1 hu with rfl | hu
            · omega
            · rw [e6] at hy
              have := hy.cross z (by simp) u hu
              omega
          · exact HM.out.drewN _
          · exact gr_drewN HG.out _
        case measure => simp [intOf]; omega
    · obtain rfl : M = [] := List.eq_nil_of_length_eq_zero (by omega)
      obtain rfl : i = j := by simp at q2; omega
      go_wp2
      go_loopw [13] (fun v13 wv => ∃ (k : Nat) (Ya Yb : List Int), v13 = .int .i64 ((a : Int) + k) ∧ Ya.length = k ∧ k + Yb.length = Y1.length ∧ Aside0 (Y1 = Ya ++ Yb) ∧ Aside0 (Rw wv base ok g cap (P ++ (Ya ++ x :: (Yb ++ (Y2 ++ Q))))) ∧ Aside0 (W.grownBy wv (some g))) (fun v13 _ => i - (intOf v13).toNat)
      case atStart => exact ⟨0, [], Y1, by go_num, rfl, by omega, ⟨rfl⟩, ⟨by have h := HM.out; rw [HE.out] at h; simpa using h⟩, HG⟩
      case round =>
        obtain ⟨k, Ya, Yb, rfl, r1, r2, HYY, HM2, HG2⟩ := hrel
        clear HM HG
        by_cases hk : k < Y1.length
        · obtain ⟨y, Yc, rfl⟩ : ∃ y t, Yb = y :: t := by cases Yb with
            | nil => simp at r2; omega
            | cons y t => exact ⟨y, t, rfl⟩
          rw [List.length_cons] at r2
          have hm := HM2.out
          have e0 : P ++ (Ya ++ x :: (y :: Yc ++ (Y2 ++ Q))) = (P ++ Ya) ++ x :: ([] ++ y :: (Yc ++ (Y2 ++ Q))) := by simp
          rw [e0] at hm
          obtain ⟨t1, t2, t3⟩ := two (P ++ Ya) [] (Yc ++ (Y2 ++ Q)) x y
          have p1 : (P ++ Ya).length = o + (a + k) := by rw [List.length_append]; omega
          have p2 : (P ++ Ya).length + 1 + ([] : List Int).length = o + (a + k + 1) := by rw [p1]; simp; omega
          have ln : ((P ++ Ya) ++ x :: ([] ++ y :: (Yc ++ (Y2 ++ Q)))).length = o + (a + k) + 1 + 1 + (Yc ++ (Y2 ++ Q)).length := by
            rw [List.length_append, p1]; simp only [List.length_cons, List.nil_append]; omega
          rw [p2, p1] at t3
          rw [p2] at t2
          rw [p1] at t1
          obtain ⟨c1, f1⟩ := hm.at_ (o + (a + k)) (by rw [ln]; omega)
          obtain ⟨c2, f2⟩ := hm.at_ (o + (a + k + 1)) (by rw [ln]; omega)
          rw [t1] at c1
          rw [t2] at c2
          have hfin := (hm.put (o + (a + k)) y).put (o + (a + k + 1)) x
          rw [t3] at hfin
          have HF := Aside0.mk hfin
          clear hm hfin e0 t1 t2 t3 p1 p2 ln HM2
          go_wp2
          go_region
          go_wp2
          go_roundw
          case rel =>
            refine ⟨k + 1, Ya ++ [y], Yc, by go_num, by simp; omega, by omega, ⟨by rw [HYY.out]; simp⟩, ⟨?_⟩, ⟨?_⟩⟩
            · simpa using HF.out.drew
            · exact gr_drewN (gr_set (gr_set HG2.out _ _) _ _) 1
          case measure => simp [intOf]; omega
        · obtain rfl : Yb = [] := List.eq_nil_of_length_eq_zero (by omega)
          go_wp2
          refine bodyPost_ret (results_none rfl _ _ _) rfl ?_
          refine ⟨rfl, Y1 ++ x :: Y2, ?_, ?_, ?_, HG2.out⟩
          · have hy := HY.out
            rw [HE.out] at hy
            refine hy.left.join (List.pairwise_cons.2 ⟨HU.out, hy.right⟩) ?_
            intro u hu v hv
            have h1 := HL.out u hu
            rcases List.mem_cons.1 hv with rfl | hv
            · omega
            · have h2 := HU.out v hv; omega
          · have e6 : same key ([x] ++ Y1) (Y1 ++ [x]) := (swap (fun u hu v hv e => by
              rw [List.mem_singleton.1 hv] at e
              have := HL.out u hu
              omega)).symm
            have e7 := e6.append (same.refl Y2)
            rw [HE.out]
            simpa using e7
          · have h := HM2.out
            rw [HYY.out]
            simpa using h
set_option maxHeartbeats 4000000 in
set_option maxRecDepth 100000 in
theorem symR2 (key : Int → Int) (hK : Cmp key) (g o n c cap : Nat) (a m b : Nat) (P : List Int) (X : List Int) (y : Int) (Q : List Int) (W : World) (base : Nat) (ok : Nat → Prop) (hR : Rw W base ok g cap (P ++ (X ++ (y :: Q)))) (hm : a + X.length = m) (hm2 : 2 ≤ X.length) (hb : m + 1 = b) (hX : srt key X) (ha : P.length = o + a) (hbn : b ≤ n) (hn : n ≤ 1099511627776) :
    Calls Tryd.prog 246 #[.slice (some ⟨g, o, none⟩) n c, .int .i64 a, .int .i64 m, .int .i64 b, .func (.func 171) #[] #[]] W fun e w' => e = .returned (.tuple #[]) ∧ ∃ Z, srt key Z ∧ same key (X ++ [y]) Z ∧ Rw w' base ok g cap (P ++ (Z ++ Q)) ∧ W.grownBy w' (some g) := by
  have HR := Aside0.mk hR
  clear hR
  have HX := Aside0.mk hX
  clear hX
  go_enter Tryd.func246, Tryd.ntmps246
  have h1 : ((m : Int) - a = 1) = False := eq_false (by omega)
  have h2 : ((b : Int) - m = 1) = True := eq_true (by omega)
  go_wp2
  go_loopw [14, 15] (fun v14 v15 wr => ∃ (i j : Nat) (X1 M X2 : List Int), v14 = .int .i64 i ∧ v15 = .int .i64 j ∧ a + X1.length = i ∧ i + M.length = j ∧ j + X2.length = m ∧ Aside0 (X = X1 ++ (M ++ X2)) ∧ Aside0 (∀ z ∈ X1, key z ≤ key y) ∧ Aside0 (∀ z ∈ X2, key y < key z) ∧ Aside0 (Rw wr base ok g cap (P ++ (X ++ (y :: Q)))) ∧ Aside0 (W.grownBy wr (some g))) (fun v14 v15 _ => (intOf v15).toNat - (intOf v14).toNat)
  case atStart => exact ⟨a, m, [], X, [], by go_num, by go_num, by simp, by omega, by simp, ⟨by simp⟩, ⟨by simp⟩, ⟨by simp⟩, HR, ⟨World.grownBy.refl W _⟩⟩
  case round =>
    obtain ⟨i, j, X1, M, X2, rfl, rfl, q1, q2, q3, HE, HL, HU, HM, HG⟩ := hrel
    clear HR
    by_cases hlt : i < j
    · obtain ⟨h, hh⟩ : ∃ h, (i + j) / 2 = h := ⟨_, rfl⟩
      obtain ⟨Ma, Mb', e1, l1, l2⟩ := cut (l := M) (h - i) (by omega)
      obtain ⟨z, Mb, rfl⟩ : ∃ z t, Mb' = z :: t := by cases Mb' with
        | nil => simp at l2; omega
        | cons z t => exact ⟨z, t, rfl⟩
      subst e1
      rw [List.length_append, List.length_cons] at q2
      have k0 := hK.1 y
      have k1 := hK.1 z
      have hm := HM.out
      have ee : P ++ (X ++ (y :: Q)) = (P ++ X1 ++ Ma) ++ z :: ((Mb ++ X2) ++ y :: Q) := by rw [HE.out]; simp
      rw [ee] at hm
      obtain ⟨t1, t2, -⟩ := two (P ++ X1 ++ Ma) (Mb ++ X2) Q z y
      have p1 : (P ++ X1 ++ Ma).length = o + h := by rw [List.length_append, List.length_append]; omega
      have p2 : (P ++ X1 ++ Ma).length + 1 + (Mb ++ X2).length = o + m := by rw [p1, List.length_append]; omega
      have ln : ((P ++ X1 ++ Ma) ++ z :: ((Mb ++ X2) ++ y :: Q)).length = o + m + 1 + Q.length := by
        rw [← p2]; simp only [List.length_append, List.length_cons]; omega
      rw [p1] at t1
      rw [p2] at t2
      obtain ⟨c1, f1⟩ := hm.at_ (o + h) (by rw [ln]; omega)
      obtain ⟨c2, f2⟩ := hm.at_ (o + m) (by rw [ln]; omega)
      rw [t1] at c1
      rw [t2] at c2
      clear hm t1 t2 p1 p2 ln ee
      rw [List.length_cons] at l2
      have i0 : (0 : Int) ≤ h := by omega
      have i1 : (h : Int) < (n : Int) := by omega
      have i3 : (0 : Int) ≤ (m : Int) := by omega
      have i4 : (m : Int) < (n : Int) := by omega
      have i9 : IntKind.i64.wrap (key y - key z) = key y - key z := by rw [IntKind.wrap_i64]; omega
      have e5 : ((i : Int) + j) / 2 = h := by omega
      go_wp2
      by_cases hc : key y < key z
      · have i7 : (key y - key z < 0) = True := eq_true (by omega)
        go_quiet (exact hK.quiet y z _ _)
        go_wp2
        go_roundw
        case rel =>
          refine ⟨i, h, X1, Ma, z :: Mb ++ X2, rfl, rfl, q1, by omega, by simp only [List.length_append, List.length_cons]; omega, ⟨by rw [HE.out]; simp⟩, HL, ⟨?_⟩, ⟨?_⟩, ⟨?_⟩⟩
          · intro u hu
            have hy := HX.out
            rw [HE.out] at hy
            have e6 : X1 ++ (Ma ++ z :: Mb ++ X2) = (X1 ++ Ma ++ [z]) ++ (Mb ++ X2) := by simp
            rcases List.mem_cons.1 hu with rfl | hu
            · omega
            · rw [e6] at hy
              have := hy.cross z (by simp) u hu
              omega
          · exact HM.out.drewN _
          · exact gr_drewN HG.out _
        case measure => simp [intOf]; omega
      · have i7 : (key y - key z < 0) = False := eq_false (by omega)
        go_quiet (exact hK.quiet y z _ _)
        go_wp2
        go_roundw
        case rel =>
          refine ⟨h + 1, j, X1 ++ Ma ++ [z], Mb, X2, by go_num, rfl, by simp only [List.length_append, List.length_cons, List.length_nil]; omega, by omega, q3, ⟨by rw [HE.out]; simp⟩, ⟨?_⟩, HU, ⟨?_⟩, ⟨?_⟩⟩
          · intro u hu
            have hy := HX.out
            rw [HE.out] at hy
            rcases List.mem_append.1 hu with hu | hu
            · have : key u ≤ key z := by
                have e6 : X1 ++ (Ma ++ z :: Mb ++ X2) = (X1 ++ Ma) ++ (z :: Mb ++ X2) := by simp
                rw [e6] at hy
                exact hy.cross u hu z (by simp)
              omega
            · rw [List.mem_singleton.1 hu]; omega
          · exact HM.out.drewN _
          · exact gr_drewN HG.out _
        case measure => simp [intOf]; omega
    · obtain rfl : M = [] := List.eq_nil_of_length_eq_zero (by omega)
      obtain rfl : i = j := by simp at q2; omega
      go_wp2
      go_loopw [17] (fun v17 wv => ∃ (k : Nat) (Xa Xb : List Int), v17 = .int .i64 ((i : Int) + k) ∧ Xa.length = k ∧ k + Xb.length = X2.length ∧ Aside0 (X2 = Xa ++ Xb) ∧ Aside0 (Rw wv base ok g cap (P ++ (X1 ++ (Xa ++ y :: (Xb ++ Q))))) ∧ Aside0 (W.grownBy wv (some g))) (fun v17 _ => (intOf v17).toNat)
      case atStart => exact ⟨X2.length, X2, [], by go_num, rfl, by simp, ⟨by simp⟩, ⟨by have h := HM.out; rw [HE.out] at h; simpa using h⟩, HG⟩
      case round =>
        obtain ⟨k', Xa, Xb, rfl, r1, r2, HYY, HM2, HG2⟩ := hrel
        clear HM HG
        rcases List.eq_nil_or_concat Xa with rfl | ⟨X0, z, rfl⟩
        · obtain rfl : k' = 0 := by simpa using r1.symm
          have e9 : ((i : Int) + ((0 : Nat) : Int)) = i := by omega
          rw [e9]
          go_wp2
          refine bodyPost_ret (results_none rfl _ _ _) rfl ?_
          refine ⟨rfl, X1 ++ y :: X2, ?_, ?_, ?_, HG2.out⟩
          · have hy := HX.out
            rw [HE.out] at hy
            refine hy.left.join (List.pairwise_cons.2 ⟨fun z hz => Int.le_of_lt (HU.out z hz), hy.right⟩) ?_
            intro u hu v hv
            have h1 := HL.out u hu
            rcases List.mem_cons.1 hv with rfl | hv
            · omega
            · have h2 := HU.out v hv; omega
          · have e6 : same key (X2 ++ [y]) ([y] ++ X2) := swap (fun u hu v hv e => by
              rw [List.mem_singleton.1 hv] at e
              have := HU.out u hu
              omega)
            have e7 := (same.refl X1 : same key X1 X1).append e6
            rw [HE.out]
            simpa using e7
          · have h := HM2.out
            rw [HYY.out]
            simpa using h
        · rw [List.concat_eq_append] at HM2 HYY r1
          obtain ⟨k, hk⟩ : ∃ k, X0.length = k := ⟨_, rfl⟩
          rw [List.length_append, List.length_singleton, hk] at r1
          obtain rfl : k' = k + 1 := r1.symm
          clear r1
          have hm := HM2.out
          have e0 : P ++ (X1 ++ (X0 ++ [z] ++ y :: (Xb ++ Q))) = (P ++ X1 ++ X0) ++ z :: ([] ++ y :: (Xb ++ Q)) := by simp
          rw [e0] at hm
          obtain ⟨t1, t2, -⟩ := two (P ++ X1 ++ X0) [] (Xb ++ Q) z y
          have t4 := two' (P ++ X1 ++ X0) [] (Xb ++ Q) z y
          have p1 : (P ++ X1 ++ X0).length = o + (i + k) := by rw [List.length_append, List.length_append]; omega
          have p2 : (P ++ X1 ++ X0).length + 1 + ([] : List Int).length = o + (i + k + 1) := by rw [p1]; simp; omega
          have ln : ((P ++ X1 ++ X0) ++ z :: ([] ++ y :: (Xb ++ Q))).length = o + (i + k) + 1 + 1 + (Xb ++ Q).length := by
            rw [List.length_append, p1]; simp only [List.length_cons, List.nil_append]; omega
          rw [p2, p1] at t4
          rw [p2] at t2
          rw [p1] at t1
          obtain ⟨c1, f1⟩ := hm.at_ (o + (i + k)) (by rw [ln]; omega)
          obtain ⟨c2, f2⟩ := hm.at_ (o + (i + k + 1)) (by rw [ln]; omega)
          rw [t1] at c1
          rw [t2] at c2
          have hfin := (hm.put (o + (i + k + 1)) z).put (o + (i + k)) y
          rw [t4] at hfin
          have HF := Aside0.mk hfin
          have e8 : ((i : Int) + ((k + 1 : Nat) : Int)) = (i : Int) + k + 1 := by omega
          rw [e8]
          clear hm hfin e0 t1 t2 t4 p1 p2 ln HM2
          go_wp2
          go_region
          go_wp2
          go_roundw
          case rel =>
            refine ⟨k, X0, z :: Xb, rfl, hk, by simp only [List.length_cons]; omega, ⟨by rw [HYY.out]; simp⟩, ⟨?_⟩, ⟨?_⟩⟩
            · simpa using HF.out.drew
            · exact gr_drewN (gr_set (gr_set HG2.out _ _) _ _) 1
          case measure => simp [intOf]; omega
end Go.Proofs.YtiabgmddnddeiaaDoor.Sor
