/- A plain text of the law FnNormer, what the law uses of it, taken out by a program of this session's (wip/tool/prune.py). -/
import Derived.Test.YtiabgmddnddeiaaDoorProg
import Derived.Below
import Derived.Deep.Draws
import Derived.Deep.AppendLies
import Derived.Maps.AppendAt
import Derived.OwnWalk
import Derived.Laws.BytesArg
import Derived.Laws.MakeOwn
import Derived.Laws.OwnMore
import Derived.Deep.OwnRows
import Derived.Tactics
import Derived.Lib.ConvBytes
import Derived.Laws.Slices
import Derived.WalkKit
import Derived.KernelRfl
import Derived.RowKit3
import Derived.Deep.LoopGhost
import Derived.Deep.QuietTactic
import Derived.BigQuiet
import Derived.WideLaws
import Derived.Deep.DeepCutAuto
import Derived.Deep.CutBlock
import Derived.Deep.RegionHeld3
import Derived.Laws.Rows
import Derived.Lib.AppendStr
import Derived.ArgAppend
import Derived.Laws.IdiomCopy
import Derived.OrdersHeld
import Derived.Laws.BitsLemmas
import Derived.RowKit
import Derived.Test.YtiabgmddnddeiaaDoorVFnNormerPts
import Derived.Test.YtiabgmddnddeiaaDoorShelf
import Derived.Test.YtiabgmddnddeiaaDoorVFnNormerSrt
import Derived.RegionTactic
import Derived.ChangeAlike
import Derived.Deep.Light
import Derived.Test.YtiabgmddnddeiaaDoorVFnNormerW0
set_option linter.unusedVariables false
set_option linter.unusedSimpArgs false
namespace Go.Proofs.YtiabgmddnddeiaaDoor.Sor
open Go.RowKit Go.Proofs.YtiabgmddnddeiaaDoorW.PrintWords Go.Proofs.YtiabgmddnddeiaaDoorW.PrintLast Go.Proofs.YtiabgmddnddeiaaDoorW.PrintMore
def Rw (W : World) (base : Nat) (ok : Nat → Prop) (g cap : Nat) (L : List Int) : Prop := Kd.R (Kd.int .i64) 2 W base ok (.slice (some ⟨g, 0, none⟩) L.length cap) L
theorem Rw.at_ {W : World} {base : Nat} {ok : Nat → Prop} {g cap : Nat} {L : List Int} (h : Rw W base ok g cap L) (p : Nat) (hp : p < L.length) : W.cell? ⟨g, p, none⟩ = some (.int .i64 (L.getD p 0)) ∧ W.frozen? ⟨g, p, none⟩ = false := by
  have := Kd.R_cell (enc := Value.int .i64) 0 h (p : Int) (by omega) (by omega)
  rw [Int.toNat_natCast] at this
  exact this
theorem Rw.put {W : World} {base : Nat} {ok : Nat → Prop} {g cap : Nat} {L : List Int} (h : Rw W base ok g cap L) (p : Nat) (x : Int) : Rw (W.setCell ⟨g, p, none⟩ (.int .i64 x)) base ok g cap (L.set p x) := by
  have := (Kd.R_put (enc := Value.int .i64) h (p : Int) x).1
  rw [Int.toNat_natCast] at this
  unfold Rw
  rw [List.length_set]
  exact this
theorem Rw.drewN {W : World} {base : Nat} {ok : Nat → Prop} {g cap : Nat} {L : List Int} (h : Rw W base ok g cap L) (n : Nat) : Rw (W.drewN n) base ok g cap L := Kd.R_drewN h n
theorem gr_set {W W1 : World} {g : Nat} (h : W.grownBy W1 (some g)) (p : Nat) (v : Value) : W.grownBy (W1.setCell ⟨g, p, none⟩ v) (some g) :=
  ⟨h.os, h.tape, h.output, by simpa [World.setCell] using h.size, fun i hi hne => (Below.heap_setCell W1 ⟨g, p, none⟩ v i (fun e => hne (by rw [e]))).trans (h.block i hi hne)⟩
theorem gr_drewN {W W1 : World} {row : Option Nat} (h : W.grownBy W1 row) (n : Nat) : W.grownBy (W1.drewN n) row := ⟨h.os, h.tape, h.output, h.size, h.block⟩
theorem gr_trans {W W1 W2 : World} {row : Option Nat} (h : W.grownBy W1 row) (k : W1.grownBy W2 row) : W.grownBy W2 row :=
  ⟨k.os.trans h.os, k.tape.trans h.tape, k.output.trans h.output, Nat.le_trans h.size k.size, fun i hi hne => (k.block i (Nat.lt_of_lt_of_le hi h.size) hne).trans (h.block i hi hne)⟩
theorem rd0 (P : List Int) (x : Int) (Q : List Int) : (P ++ x :: Q).getD P.length 0 = x := by simp [List.getD]
theorem set0 (P : List Int) (x v : Int) (Q : List Int) : (P ++ x :: Q).set P.length v = P ++ v :: Q := by
  rw [List.set_append_right _ _ (Nat.le_refl _), Nat.sub_self, List.set_cons_zero]
theorem two (P M Q : List Int) (x y : Int) : (P ++ x :: (M ++ y :: Q)).getD P.length 0 = x ∧ (P ++ x :: (M ++ y :: Q)).getD (P.length + 1 + M.length) 0 = y ∧
    ((P ++ x :: (M ++ y :: Q)).set P.length y).set (P.length + 1 + M.length) x = P ++ y :: (M ++ x :: Q) := by
  refine ⟨rd0 _ _ _, ?_, ?_⟩
  · have := rd0 (P ++ x :: M) y Q
    rw [List.length_append, List.length_cons] at this
    rw [show P.length + 1 + M.length = P.length + (M.length + 1) by omega, show P ++ x :: (M ++ y :: Q) = P ++ x :: M ++ y :: Q by simp]
    exact this
  · rw [set0]
    have := set0 (P ++ y :: M) y x Q
    rw [List.length_append, List.length_cons] at this
    rw [show P.length + 1 + M.length = P.length + (M.length + 1) by omega, show P ++ y :: (M ++ y :: Q) = P ++ y :: M ++ y :: Q by simp, this]
    simp
set_option maxHeartbeats 4000000 in
set_option maxRecDepth 100000 in
theorem swapR (F : Value) (g o n c cap : Nat) (a b k : Nat) (P X1 M X2 Q : List Int) (W : World) (base : Nat) (ok : Nat → Prop) (hR : Rw W base ok g cap (P ++ (X1 ++ (M ++ (X2 ++ Q))))) (h1 : X1.length = k) (h2 : X2.length = k) (ha : P.length = o + a) (hb : P.length + k + M.length = o + b) (hbn : b + k ≤ n) (hn : n ≤ 1099511627776) :
    Calls Tryd.prog 259 #[.slice (some ⟨g, o, none⟩) n c, .int .i64 a, .int .i64 b, .int .i64 k, F] W fun e w' => e = .returned (.tuple #[]) ∧ Rw w' base ok g cap (P ++ (X2 ++ (M ++ (X1 ++ Q)))) ∧ W.grownBy w' (some g) := by
  have HR := Aside0.mk hR
  clear hR
  go_enter Tryd.func259, Tryd.ntmps259
  go_wp2
  go_loopw [10] (fun v10 wr => ∃ (i : Nat) (P' Y1 M' Y2 : List Int), i ≤ k ∧ v10 = .int .i64 i ∧ Y1.length = k - i ∧ Y2.length = k - i ∧ P'.length = o + a + i ∧ P'.length + (k - i) + M'.length = o + b + i ∧ Aside0 (Rw wr base ok g cap (P' ++ (Y1 ++ (M' ++ (Y2 ++ Q))))) ∧ Aside0 (P' ++ (Y2 ++ (M' ++ (Y1 ++ Q))) = P ++ (X2 ++ (M ++ (X1 ++ Q)))) ∧ Aside0 (W.grownBy wr (some g))) (fun v10 _ => k - (intOf v10).toNat)
  case atStart => exact ⟨0, P, X1, M, X2, Nat.zero_le _, rfl, by omega, by omega, by omega, by omega, HR, ⟨rfl⟩, ⟨World.grownBy.refl W _⟩⟩
  case round =>
    obtain ⟨i, P', Y1, M', Y2, hi, rfl, l1, l2, l3, l4, HM, HS, HG⟩ := hrel
    clear HR
    by_cases hlt : i < k
    · obtain ⟨x, Z1, rfl⟩ : ∃ x Z, Y1 = x :: Z := by cases Y1 with
        | nil => simp at l1; omega
        | cons x Z => exact ⟨x, Z, rfl⟩
      obtain ⟨y, Z2, rfl⟩ : ∃ x Z, Y2 = x :: Z := by cases Y2 with
        | nil => simp at l2; omega
        | cons x Z => exact ⟨x, Z, rfl⟩
      rw [List.length_cons] at l1 l2
      have e0 : P' ++ (x :: Z1 ++ (M' ++ (y :: Z2 ++ Q))) = P' ++ x :: ((Z1 ++ M') ++ y :: (Z2 ++ Q)) := by simp
      obtain ⟨t1, t2, t3⟩ := two P' (Z1 ++ M') (Z2 ++ Q) x y
      have p1 : P'.length = o + (a + i) := by omega
      have p2 : P'.length + 1 + (Z1 ++ M').length = o + (b + i) := by rw [List.length_append]; omega
      have hm := HM.out
      rw [e0] at hm
      rw [p1] at t1
      rw [p2] at t2
      rw [p2, p1] at t3
      obtain ⟨c1, f1⟩ := hm.at_ (o + (a + i)) (by simp only [List.length_append, List.length_cons]; omega)
      obtain ⟨c2, f2⟩ := hm.at_ (o + (b + i)) (by simp only [List.length_append, List.length_cons] at p2 ⊢; omega)
      rw [t1] at c1
      rw [t2] at c2
      have hfin := (hm.put (o + (a + i)) y).put (o + (b + i)) x
      rw [t3] at hfin
      have HF := Aside0.mk hfin
      have HT := Aside0.mk HS.out
      clear hm hfin t1 t2 t3 e0 p1 p2 HM HS
      go_wp2
      go_region
      go_wp2
      go_roundw
      case rel =>
        refine ⟨i + 1, P' ++ [y], Z1, M' ++ [x], Z2, by omega, by go_num, by omega, by omega, by rw [List.length_append]; simp only [List.length_cons, List.length_nil]; omega, by simp only [List.length_append, List.length_cons, List.length_nil]; omega, ⟨?_⟩, ⟨?_⟩, ⟨?_⟩⟩
        · have e1 : P' ++ [y] ++ (Z1 ++ (M' ++ [x] ++ (Z2 ++ Q))) = P' ++ y :: ((Z1 ++ M') ++ x :: (Z2 ++ Q)) := by simp
          rw [e1]
          exact Kd.R_drew HF.out
        · rw [← HT.out]; simp
        · exact gr_drewN (gr_set (gr_set HG.out _ _) _ _) 1
      case measure => simp [intOf]; omega
    · obtain rfl : i = k := by omega
      obtain rfl : Y1 = [] := List.eq_nil_of_length_eq_zero (by omega)
      obtain rfl : Y2 = [] := List.eq_nil_of_length_eq_zero (by omega)
      have hm := HM.out
      have hs := HS.out
      simp only [List.nil_append] at hm hs
      rw [hs] at hm
      have HM2 := Aside0.mk hm
      clear hm hs HM HS
      go_wp2
      go_end0
      exact ⟨rfl, HM2.out, HG.out⟩
theorem swapA (F : Value) (g o n c cap : Nat) (ia ib ik : Int) (P X1 M X2 Q : List Int) (W : World) (base : Nat) (ok : Nat → Prop) (hR : Rw W base ok g cap (P ++ (X1 ++ (M ++ (X2 ++ Q))))) (h1 : ik = X1.length) (h2 : ik = X2.length) (ha : (P.length : Int) = o + ia) (hb : (P.length : Int) + ik + M.length = o + ib) (h0 : 0 ≤ ia) (hbn : ib + ik ≤ n) (hn : n ≤ 1099511627776) :
    Calls Tryd.prog 259 #[.slice (some ⟨g, o, none⟩) n c, .int .i64 ia, .int .i64 ib, .int .i64 ik, F] W fun e w' => e = .returned (.tuple #[]) ∧ Rw w' base ok g cap (P ++ (X2 ++ (M ++ (X1 ++ Q)))) ∧ W.grownBy w' (some g) := by
  obtain ⟨a, rfl⟩ : ∃ a : Nat, ia = a := ⟨ia.toNat, by omega⟩
  obtain ⟨b, rfl⟩ : ∃ a : Nat, ib = a := ⟨ib.toNat, by omega⟩
  subst h1
  exact swapR F g o n c cap a b X1.length P X1 M X2 Q W base ok hR rfl (by omega) (by omega) (by omega) (by omega) hn
theorem cut {l : List Int} (k : Nat) (h : k ≤ l.length) : ∃ a b, l = a ++ b ∧ a.length = k ∧ a.length + b.length = l.length := ⟨l.take k, l.drop k, (List.take_append_drop k l).symm, by rw [List.length_take]; omega, by rw [List.length_take, List.length_drop]; omega⟩
set_option maxHeartbeats 4000000 in
set_option maxRecDepth 100000 in
theorem rotateR (F : Value) (g o n c cap : Nat) (a m b : Nat) (P X Y Q : List Int) (W : World) (base : Nat) (ok : Nat → Prop) (hR : Rw W base ok g cap (P ++ (X ++ (Y ++ Q)))) (h1 : a + X.length = m) (h2 : m + Y.length = b) (p1 : 0 < X.length) (p2 : 0 < Y.length) (ha : P.length = o + a) (hbn : b ≤ n) (hn : n ≤ 1099511627776) :
    Calls Tryd.prog 257 #[.slice (some ⟨g, o, none⟩) n c, .int .i64 a, .int .i64 m, .int .i64 b, F] W fun e w' => e = .returned (.tuple #[]) ∧ Rw w' base ok g cap (P ++ (Y ++ (X ++ Q))) ∧ W.grownBy w' (some g) := by
  have HR := Aside0.mk hR
  clear hR
  go_enter Tryd.func257, Tryd.ntmps257
  go_wp2
  go_loopw [10, 11] (fun v10 v11 wr => ∃ (i j : Nat) (A X' Y' B : List Int), 0 < i ∧ 0 < j ∧ i ≤ m ∧ v10 = .int .i64 i ∧ v11 = .int .i64 j ∧ X'.length = i ∧ Y'.length = j ∧ P.length + A.length + i = o + m ∧ m + j + B.length = b ∧ A.length + i + a = m ∧ Aside0 (Rw wr base ok g cap (P ++ A ++ (X' ++ (Y' ++ (B ++ Q))))) ∧ Aside0 (A ++ (Y' ++ (X' ++ B)) = Y ++ X) ∧ Aside0 (W.grownBy wr (some g))) (fun v10 v11 _ => (intOf v10).toNat + (intOf v11).toNat)
  case atStart => exact ⟨X.length, Y.length, [], X, Y, [], p1, p2, by omega, by go_num, by go_num, rfl, rfl, by simp; omega, by simp; omega, by simp; omega, ⟨by simpa using HR.out⟩, ⟨by simp⟩, ⟨World.grownBy.refl W _⟩⟩
  case round =>
    obtain ⟨i, j, A, X', Y', B, q1, q2, q3, rfl, rfl, l1, l2, l3, l4, l5, HM, HS, HG⟩ := hrel
    clear HR
    rcases Nat.lt_trichotomy i j with hlt | heq | hgt
    · obtain ⟨Ya, Yb, rfl, c1, c2⟩ := cut (l := Y') (j - i) (by omega)
      rw [List.length_append] at l2
      have hm := HM.out
      have e1 : P ++ A ++ (X' ++ (Ya ++ Yb ++ (B ++ Q))) = P ++ A ++ (X' ++ (Ya ++ (Yb ++ (B ++ Q)))) := by simp
      rw [e1] at hm
      have H1 := fun ia ib ik z1 z2 z3 z4 z5 z6 => swapA F g o n c cap ia ib ik (P ++ A) X' Ya Yb (B ++ Q) wr base ok hm z1 z2 z3 z4 z5 z6 hn
      have HS1 := HS.out
      clear hm e1 HM HS
      go_wp2_with (go_at_call 259; ((with_reducible refine (H1 _ _ _ (by omega) (by omega) (by rw [List.length_append]; omega) (by rw [List.length_append]; omega) (by omega) (by omega)).mono ?_); rintro e w1 ⟨rfl, hr1, hg1⟩; have HR1 := Aside0.mk hr1; have HG1 := Aside0.mk (gr_trans HG.out hg1); clear hr1 hg1 H1))
      go_roundw
      case rel =>
        refine ⟨i, j - i, A, Yb, Ya, X' ++ B, q1, by omega, q3, rfl, by go_num, by omega, by omega, by omega, by rw [List.length_append]; omega, by omega, ⟨?_⟩, ⟨?_⟩, ⟨?_⟩⟩
        · have := HR1.out
          simpa [List.append_assoc] using this
        · rw [← HS1]; simp
        · exact HG1.out
      case measure => simp [intOf]; omega
    · subst heq
      have hm := HM.out
      have e1 : P ++ A ++ (X' ++ (Y' ++ (B ++ Q))) = P ++ A ++ (X' ++ ([] ++ (Y' ++ (B ++ Q)))) := by simp
      rw [e1] at hm
      have H1 := fun ia ib ik z1 z2 z3 z4 z5 z6 => swapA F g o n c cap ia ib ik (P ++ A) X' [] Y' (B ++ Q) wr base ok hm z1 z2 z3 z4 z5 z6 hn
      have HS1 := HS.out
      clear hm e1 HM HS
      go_wp2_with (go_at_call 259; ((with_reducible refine (H1 _ _ _ (by omega) (by omega) (by rw [List.length_append]; omega) (by rw [List.length_append, List.length_nil]; omega) (by omega) (by omega)).mono ?_); rintro e w1 ⟨rfl, hr1, hg1⟩; have HR1 := Aside0.mk hr1; have HG1 := Aside0.mk (gr_trans HG.out hg1); clear hr1 hg1 H1))
      go_end0
      refine ⟨rfl, ?_, HG1.out⟩
      have e2 : Y ++ (X ++ Q) = (Y ++ X) ++ Q := by simp
      have := HR1.out
      rw [e2, ← HS1]
      simpa [List.append_assoc] using this
    · obtain ⟨Xa, Xb, rfl, c1, c2⟩ := cut (l := X') j (by omega)
      rw [List.length_append] at l1
      have hm := HM.out
      have e1 : P ++ A ++ (Xa ++ Xb ++ (Y' ++ (B ++ Q))) = P ++ A ++ (Xa ++ (Xb ++ (Y' ++ (B ++ Q)))) := by simp
      rw [e1] at hm
      have H1 := fun ia ib ik z1 z2 z3 z4 z5 z6 => swapA F g o n c cap ia ib ik (P ++ A) Xa Xb Y' (B ++ Q) wr base ok hm z1 z2 z3 z4 z5 z6 hn
      have HS1 := HS.out
      clear hm e1 HM HS
      go_wp2_with (go_at_call 259; ((with_reducible refine (H1 _ _ _ (by omega) (by omega) (by rw [List.length_append]; omega) (by rw [List.length_append]; omega) (by omega) (by omega)).mono ?_); rintro e w1 ⟨rfl, hr1, hg1⟩; have HR1 := Aside0.mk hr1; have HG1 := Aside0.mk (gr_trans HG.out hg1); clear hr1 hg1 H1))
      go_roundw
      case rel =>
        refine ⟨i - j, j, A ++ Y', Xb, Xa, B, by omega, q2, by omega, by go_num, rfl, by omega, by omega, by rw [List.length_append]; omega, by omega, by rw [List.length_append]; omega, ⟨?_⟩, ⟨?_⟩, ⟨?_⟩⟩
        · have := HR1.out
          simpa [List.append_assoc] using this
        · rw [← HS1]; simp
        · exact HG1.out
      case measure => simp [intOf]; omega
theorem Rw.drew {W : World} {base : Nat} {ok : Nat → Prop} {g cap : Nat} {L : List Int} (h : Rw W base ok g cap L) : Rw W.drew base ok g cap L := Kd.R_drew h
theorem two' (P M Q : List Int) (x y : Int) : ((P ++ x :: (M ++ y :: Q)).set (P.length + 1 + M.length) x).set P.length y = P ++ y :: (M ++ x :: Q) := by
  rw [List.set_comm _ _ (by omega)]
  exact (two P M Q x y).2.2
def Cmp (key : Int → Int) : Prop := (∀ x, 0 ≤ key x ∧ key x ≤ 1000) ∧ ∀ (x y : Int) (W : World), Calls Tryd.prog 171 #[.int .i64 x, .int .i64 y] W fun e W' => e = .returned (.int .i64 (key x - key y)) ∧ Drawn0 W W'
theorem Cmp.quiet {key : Int → Int} (hK : Cmp key) (x y : Int) (W : World) (n : Nat) : Calls Tryd.prog 171 #[.int .i64 x, .int .i64 y] (W.drewN n) fun e w'' => e = .returned (.int .i64 (key x - key y)) ∧ ∃ m, w'' = W.drewN m :=
  (hK.2 x y (W.drewN n)).mono (by rintro e w' ⟨rfl, ⟨m, rfl⟩⟩; exact ⟨rfl, n + m, by rw [World.drewN_drewN]⟩)
open YtiabgmddnddeiaaDoorSrt
set_option maxHeartbeats 1000000 in
set_option maxRecDepth 100000 in
theorem insR (key : Int → Int) (hK : Cmp key) (g o n c cap : Nat) (a b : Nat) (P X Q : List Int) (W : World) (base : Nat) (ok : Nat → Prop) (hR : Rw W base ok g cap (P ++ (X ++ Q))) (h1 : a + X.length = b) (ha : P.length = o + a) (hbn : b ≤ n) (hn : n ≤ 1099511627776) :
    Calls Tryd.prog 245 #[.slice (some ⟨g, o, none⟩) n c, .int .i64 a, .int .i64 b, .func (.func 171) #[] #[]] W fun e w' => e = .returned (.tuple #[]) ∧ ∃ Z, srt key Z ∧ same key X Z ∧ Rw w' base ok g cap (P ++ (Z ++ Q)) ∧ W.grownBy w' (some g) := by
  have HR := Aside0.mk hR
  clear hR
  go_enter Tryd.func245, Tryd.ntmps245
  go_wp2
  go_loopw [8] (fun v8 wr => ∃ (i : Nat) (X1 Z X2 : List Int), v8 = .int .i64 ((a : Int) + i) ∧ i ≤ X.length + 1 ∧ 1 ≤ i ∧ Z.length + X2.length = X.length ∧ (Z.length = i ∨ (X.length = 0 ∧ i = 1)) ∧ Aside0 (X = X1 ++ X2) ∧ Aside0 (srt key Z) ∧ Aside0 (same key X1 Z) ∧ Aside0 (Rw wr base ok g cap (P ++ (Z ++ (X2 ++ Q)))) ∧ Aside0 (W.grownBy wr (some g))) (fun v8 _ => (b + 1 : Nat) - (intOf v8).toNat)
  case atStart =>
    cases X with
    | nil => exact ⟨1, [], [], [], by go_num, by simp, by omega, rfl, .inr ⟨rfl, rfl⟩, ⟨rfl⟩, ⟨List.Pairwise.nil⟩, ⟨same.refl _⟩, ⟨HR.out⟩, ⟨World.grownBy.refl W _⟩⟩
    | cons x t => exact ⟨1, [x], [x], t, by go_num, by simp, by omega, by simp; omega, .inl rfl, ⟨rfl⟩, ⟨List.pairwise_singleton _ _⟩, ⟨same.refl _⟩, ⟨HR.out⟩, ⟨World.grownBy.refl W _⟩⟩
  case round =>
    obtain ⟨i, X1, Z, X2, rfl, q1, q2, q3, q4, HX, HZ, HS, HM, HG⟩ := hrel
    by_cases hlt : a + i < b
    · obtain q5 : Z.length = i := by omega
      obtain ⟨x, X3, rfl⟩ : ∃ x t, X2 = x :: t := by cases X2 with
        | nil => simp at q3; omega
        | cons x t => exact ⟨x, t, rfl⟩
      rw [List.length_cons] at q3
      clear q4
      go_wp2
      go_loopw [9] (fun v9 wv => ∃ (j : Nat) (Z1 Z2 : List Int), v9 = .int .i64 ((a : Int) + j) ∧ Z1.length = j ∧ Z1.length + Z2.length = i ∧ Aside0 (Z = Z1 ++ Z2) ∧ Aside0 (∀ z ∈ Z2, key x < key z) ∧ Aside0 (Rw wv base ok g cap (P ++ (Z1 ++ x :: (Z2 ++ (X3 ++ Q))))) ∧ Aside0 (W.grownBy wv (some g))) (fun v9 _ => (intOf v9).toNat)
      case atStart => exact ⟨i, Z, [], by go_num, by omega, by simp; omega, ⟨by simp⟩, ⟨by simp⟩, ⟨by simpa using HM.out⟩, HG⟩
      case round =>
        obtain ⟨j, Z1, Z2, rfl, r1, r2, HZZ, HL, HM2, HG2⟩ := hrel
        clear HG HM
        -- the way out, by the last of Z1
        have fin : (∀ z ∈ Z1, key z ≤ key x) → srt key (Z1 ++ x :: Z2) ∧ same key (X1 ++ [x]) (Z1 ++ x :: Z2) := by
          intro h
          have hz := HZ.out
          rw [HZZ.out] at hz
          refine ⟨hz.left.join (List.pairwise_cons.2 ⟨fun z h2 => Int.le_of_lt (HL.out z h2), hz.right⟩) ?_, ?_⟩
          · intro u hu v hv
            rcases List.mem_cons.1 hv with rfl | hv
            · exact h u hu
            · exact hz.cross u hu v hv
          · have e1 : same key (X1 ++ [x]) (Z1 ++ Z2 ++ [x]) := (HZZ.out ▸ HS.out).append (same.refl _)
            have e2 : same key (Z2 ++ [x]) ([x] ++ Z2) := swap (fun u hu v hv e => by
              rw [List.mem_singleton.1 hv] at e
              have := HL.out u hu
              omega)
            have e3 := (same.refl Z1 : same key Z1 Z1).append e2
            rw [← List.append_assoc] at e3
            exact e1.trans e3
        have out : (∀ z ∈ Z1, key z ≤ key x) → Aside0 (srt key (Z1 ++ x :: Z2) ∧ same key (X1 ++ [x]) (Z1 ++ x :: Z2)) := fun h => ⟨fin h⟩
        clear fin
        rcases List.eq_nil_or_concat Z1 with rfl | ⟨Z0, z, rfl⟩
        · obtain rfl : j = 0 := by simpa using r1.symm
          have HF := out (by simp)
          clear out HZZ HL HZ HS
          have e9 : ((a : Int) + ((0 : Nat) : Int)) = a := by omega
          rw [e9]
          go_wp2
          go_region
          go_wp2
          go_roundw
          case rel =>
            refine ⟨i + 1, X1 ++ [x], x :: Z2, X3, by go_num, by omega, by omega, by simp only [List.length_cons, List.length_nil] at r2 ⊢; omega, .inl (by simp only [List.length_cons, List.length_nil] at r2 ⊢; omega), ⟨by rw [HX.out]; simp⟩, ⟨HF.out.1⟩, ⟨HF.out.2⟩, ⟨?_⟩, ⟨?_⟩⟩
            · simpa using HM2.out.drew
            · exact gr_drewN HG2.out 1
          case measure => simp [intOf]; omega
        · rw [List.concat_eq_append] at HM2 out HZZ r1 r2
          obtain ⟨k, hk⟩ : ∃ k, Z0.length = k := ⟨_, rfl⟩
          rw [List.length_append, List.length_singleton, hk] at r1 r2
          obtain rfl : j = k + 1 := r1.symm
          clear r1
          have hm := HM2.out
          have e0 : P ++ (Z0 ++ [z] ++ x :: (Z2 ++ (X3 ++ Q))) = (P ++ Z0) ++ z :: ([] ++ x :: (Z2 ++ (X3 ++ Q))) := by simp
          rw [e0] at hm
          obtain ⟨t1, t2, t3⟩ := two (P ++ Z0) [] (Z2 ++ (X3 ++ Q)) z x
          have p1 : (P ++ Z0).length = o + (a + k) := by rw [List.length_append]; omega
          rw [p1] at t1
          rw [show (P ++ Z0).length + 1 + ([] : List Int).length = o + (a + k + 1) by rw [p1]; simp; omega] at t2 t3
          rw [p1] at t3
          have ln : ((P ++ Z0) ++ z :: ([] ++ x :: (Z2 ++ (X3 ++ Q)))).length = o + (a + k) + 1 + 1 + (Z2 ++ (X3 ++ Q)).length := by
            rw [List.length_append, p1]; simp only [List.length_cons, List.nil_append]; omega
          obtain ⟨c1, f1⟩ := hm.at_ (o + (a + k)) (by rw [ln]; omega)
          obtain ⟨c2, f2⟩ := hm.at_ (o + (a + k + 1)) (by rw [ln]; omega)
          rw [t1] at c1
          rw [t2] at c2
          have hb : k + 1 ≤ i := by omega
          have e8 : ((a : Int) + ((k + 1 : Nat) : Int)) = (a : Int) + k + 1 := by omega
          rw [e8]
          have qq : ((a : Int) < (a : Int) + k + 1) = True := eq_true (by omega)
          have k0 := hK.1 x
          have k1 := hK.1 z
          by_cases hc : key x < key z
          · have t4 := two' (P ++ Z0) [] (Z2 ++ (X3 ++ Q)) z x
            rw [show (P ++ Z0).length + 1 + ([] : List Int).length = o + (a + k + 1) by rw [p1]; simp; omega, p1] at t4
            have hfin : ∀ nd, Rw (((wr.drewN nd).setCell ⟨g, o + (a + k + 1), none⟩ (.int .i64 z)).setCell ⟨g, o + (a + k), none⟩ (.int .i64 x)) base ok g cap (P ++ Z0 ++ x :: ([] ++ z :: (Z2 ++ (X3 ++ Q)))) := fun nd => by
              have h := ((hm.drewN nd).put (o + (a + k + 1)) z).put (o + (a + k)) x
              rw [t4] at h
              exact h
            have HF := Aside0.mk hfin
            have hl := HL.out
            have HL2 : Aside0 (∀ u ∈ z :: Z2, key x < key u) := ⟨by
              intro u hu
              rcases List.mem_cons.1 hu with rfl | hu
              · exact hc
              · exact hl u hu⟩
            clear hfin hm hl HL out e0 t1 t2 t3 t4 p1 ln HM2
            have i0 : (0 : Int) ≤ (a : Int) + k + 1 := by omega
            have i1 : (a : Int) + k + 1 < (n : Int) := by omega
            have i2 : ((a : Int) + k + 1).toNat = a + k + 1 := by omega
            have i3 : (0 : Int) ≤ (a : Int) + k := by omega
            have i4 : (a : Int) + k < (n : Int) := by omega
            have i5 : ((a : Int) + k).toNat = a + k := by omega
            have i6 : IntKind.i64.wrap ((a : Int) + k + 1 - 1) = (a : Int) + k := by rw [IntKind.wrap_i64]; omega
            have i8 : IntKind.i64.wrap ((a : Int) + k) = (a : Int) + k := by rw [IntKind.wrap_i64]; omega
            have i9 : IntKind.i64.wrap (key x - key z) = key x - key z := by rw [IntKind.wrap_i64]; omega
            have i7 : (key x - key z < 0) = True := eq_true (by omega)
            go_wp2
            go_quiet (exact hK.quiet x z _ _)
            go_wp2
            go_region
            go_wp2
            go_roundw
            case rel =>
              refine ⟨k, Z0, z :: Z2, rfl, hk, by simp only [List.length_cons]; omega, ⟨by rw [HZZ.out]; simp⟩, HL2, ⟨?_⟩, ⟨?_⟩⟩
              · simpa using HF.out (nq + 1)
              · exact gr_set (gr_set (gr_drewN HG2.out _) _ _) _ _
            case measure => simp [intOf]; omega
          · have HF := out (by
              intro u hu
              have hz := HZ.out
              rw [HZZ.out] at hz
              have : key u ≤ key z := hz.left.le_last (by simp) u hu
              omega)
            clear out HL hm e0 t1 t2 t3 p1 ln HZZ HZ HS
            have i0 : (0 : Int) ≤ (a : Int) + k + 1 := by omega
            have i1 : (a : Int) + k + 1 < (n : Int) := by omega
            have i2 : ((a : Int) + k + 1).toNat = a + k + 1 := by omega
            have i3 : (0 : Int) ≤ (a : Int) + k := by omega
            have i4 : (a : Int) + k < (n : Int) := by omega
            have i5 : ((a : Int) + k).toNat = a + k := by omega
            have i6 : IntKind.i64.wrap ((a : Int) + k + 1 - 1) = (a : Int) + k := by rw [IntKind.wrap_i64]; omega
            have i8 : IntKind.i64.wrap ((a : Int) + k) = (a : Int) + k := by rw [IntKind.wrap_i64]; omega
            have i9 : IntKind.i64.wrap (key x - key z) = key x - key z := by rw [IntKind.wrap_i64]; omega
            have i7 : (key x - key z < 0) = False := eq_false (by omega)
            go_wp2
            go_quiet (exact hK.quiet x z _ _)
            go_wp2
            go_roundw
            case rel =>
              refine ⟨i + 1, X1 ++ [x], Z0 ++ [z] ++ x :: Z2, X3, by go_num, by omega, by omega, by simp only [List.length_append, List.length_cons, List.length_nil]; omega, .inl (by simp only [List.length_append, List.length_cons, List.length_nil]; omega), ⟨by rw [HX.out]; simp⟩, ⟨HF.out.1⟩, ⟨HF.out.2⟩, ⟨?_⟩, ⟨?_⟩⟩
              · simpa using HM2.out.drewN nq
              · exact gr_drewN HG2.out _
            case measure => simp [intOf]; omega
    · have e1 : i = X.length ∨ (X.length = 0 ∧ i = 1) := by omega
      obtain rfl : X2 = [] := List.eq_nil_of_length_eq_zero (by omega)
      go_wp2
      go_end0
      refine ⟨rfl, Z, HZ.out, ?_, by simpa using HM.out, HG.out⟩
      rw [HX.out, List.append_nil]
      exact HS.out
end Go.Proofs.YtiabgmddnddeiaaDoor.Sor
