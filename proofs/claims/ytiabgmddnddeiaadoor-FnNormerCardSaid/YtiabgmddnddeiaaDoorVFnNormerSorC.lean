/- A plain text of the law FnNormer, what the law uses of it, taken out by a program of this session's (wip/tool/prune.py). -/
import Derived.Test.YtiabgmddnddeiaaDoorProg
import Derived.Below
import Derived.Deep.Draws
import Derived.Deep.AppendLies
import Derived.Maps.AppendAt
import Derived.OwnWalk
import Derived.Laws.BytesArg
import Derived.Laws.MakeOwn
import Derived.Laws.OwnMore
import Derived.Deep.OwnRows
import Derived.Tactics
import Derived.Lib.ConvBytes
import Derived.Laws.Slices
import Derived.WalkKit
import Derived.KernelRfl
import Derived.RowKit3
import Derived.Deep.LoopGhost
import Derived.Deep.QuietTactic
import Derived.BigQuiet
import Derived.WideLaws
import Derived.Deep.DeepCutAuto
import Derived.Deep.CutBlock
import Derived.Deep.RegionHeld3
import Derived.Laws.Rows
import Derived.Lib.AppendStr
import Derived.ArgAppend
import Derived.Laws.IdiomCopy
import Derived.OrdersHeld
import Derived.Laws.BitsLemmas
import Derived.RowKit
import Derived.Test.YtiabgmddnddeiaaDoorVFnNormerPts
import Derived.Test.YtiabgmddnddeiaaDoorShelf
import Derived.Test.YtiabgmddnddeiaaDoorVFnNormerSrt
import Derived.RegionTactic
import Derived.ChangeAlike
import Derived.Deep.Light
import Derived.Test.YtiabgmddnddeiaaDoorVFnNormerW0
import Derived.Test.YtiabgmddnddeiaaDoorVFnNormerSorB
set_option linter.unusedVariables false
set_option linter.unusedSimpArgs false
namespace Go.Proofs.YtiabgmddnddeiaaDoor.Sor
open Go.RowKit Go.Proofs.YtiabgmddnddeiaaDoorW.PrintWords Go.Proofs.YtiabgmddnddeiaaDoorW.PrintLast Go.Proofs.YtiabgmddnddeiaaDoorW.PrintMore YtiabgmddnddeiaaDoorSrt
theorem lastD (P A B : List Int) (p : Int) (h : A.getLast? = some p) : (P ++ (A ++ B)).getD (P.length + A.length - 1) 0 = p := by
  obtain ⟨A', rfl⟩ := List.getLast?_eq_some_iff.1 h
  have := rd0 (P ++ A') p B
  rw [List.length_append] at this
  rw [List.length_append, List.length_singleton, show P.length + (A'.length + 1) - 1 = P.length + A'.length by omega, show P ++ (A' ++ [p] ++ B) = P ++ A' ++ p :: B by simp]
  exact this
theorem headD (P A B : List Int) (q : Int) (h : A.head? = some q) : (P ++ (A ++ B)).getD P.length 0 = q := by
  cases A with
  | nil => cases h
  | cons y t => injection h with h; subst h; exact rd0 P y (t ++ B)
theorem getLast_len {A : List Int} {p : Int} (h : A.getLast? = some p) : 0 < A.length := by
  cases A with
  | nil => cases h
  | cons y t => simp
theorem head_len {A : List Int} {p : Int} (h : A.head? = some p) : 0 < A.length := by
  cases A with
  | nil => cases h
  | cons y t => simp
structure Found (key : Int → Int) (P X Y Q : List Int) (o a m b mid nn s : Nat) : Prop where
  l1 : a ≤ s
  l2 : s ≤ m
  l3 : s ≤ mid
  l4 : nn ≤ b + s
  i1 : (s = a ∨ nn = s + b) ∨ (1 ≤ s ∧ key ((P ++ (X ++ (Y ++ Q))).getD (o + (s - 1)) 0) ≤ key ((P ++ (X ++ (Y ++ Q))).getD (o + (nn - s)) 0))
  i2 : (s = m ∨ s = mid) ∨ key ((P ++ (X ++ (Y ++ Q))).getD (o + (nn - 1 - s)) 0) < key ((P ++ (X ++ (Y ++ Q))).getD (o + s) 0)
theorem Found.parts {key : Int → Int} {P X Y Q : List Int} {o a m b mid nn s : Nat} (h : Found key P X Y Q o a m b mid nn s) (hXm : a + X.length = m) (hYb : m + Y.length = b) (p1 : 0 < X.length) (p2 : 0 < Y.length) (ha : P.length = o + a) (hX : srt key X) (hY : srt key Y) (hmid : (a + b) / 2 = mid) (hnn : mid + m = nn) :
    ∃ x1 x2 y1 y2, X = x1 ++ x2 ∧ Y = y1 ++ y2 ∧ a + x1.length = s ∧ s + x2.length = m ∧ s + y1.length = mid ∧ m + y1.length + y2.length = b ∧ srt key x1 ∧ srt key x2 ∧ srt key y1 ∧ srt key y2 ∧
      ∀ u v, srt key u → same key (x1 ++ y1) u → srt key v → same key (x2 ++ y2) v → srt key (u ++ v) ∧ same key (X ++ Y) (u ++ v) := by
  obtain ⟨g1, g2, g3, g4, HI1, HI2⟩ := h
  obtain ⟨x1, x2, ex, lx1, lx2⟩ := cut (l := X) (s - a) (by omega)
  obtain ⟨y1, y2, ey, ly1, ly2⟩ := cut (l := Y) (mid - s) (by omega)
  refine ⟨x1, x2, y1, y2, ex, ey, by omega, by omega, by omega, by omega, (by rw [ex] at hX; exact hX.left), (by rw [ex] at hX; exact hX.right), (by rw [ey] at hY; exact hY.left), (by rw [ey] at hY; exact hY.right), ?_⟩
  obtain ⟨L, hL⟩ : ∃ L, P ++ (X ++ (Y ++ Q)) = L := ⟨_, rfl⟩
  rw [hL] at HI1 HI2
  have l1 : L = P ++ (x1 ++ (x2 ++ (y1 ++ (y2 ++ Q)))) := by rw [← hL, ex, ey]; simp
  have hp1 : ∀ p q, x1.getLast? = some p → y2.head? = some q → key p ≤ key q := by
    intro p q hp hq
    have z1 := getLast_len hp
    have z2 := head_len hq
    rcases HI1 with h | ⟨h, h'⟩
    · exfalso; omega
    · have a1 : L.getD (o + (s - 1)) 0 = p := by rw [l1, show o + (s - 1) = P.length + x1.length - 1 by omega]; exact lastD _ _ _ _ hp
      have a2 : L.getD (o + (nn - s)) 0 = q := by
        rw [l1, show P ++ (x1 ++ (x2 ++ (y1 ++ (y2 ++ Q)))) = (P ++ x1 ++ x2 ++ y1) ++ (y2 ++ Q) by simp, show o + (nn - s) = (P ++ x1 ++ x2 ++ y1).length by simp only [List.length_append]; omega]
        exact headD _ _ _ _ hq
      rw [a1, a2] at h'
      exact h'
  have hp2 : ∀ p q, y1.getLast? = some p → x2.head? = some q → key p < key q := by
    intro p q hp hq
    have z1 := getLast_len hp
    have z2 := head_len hq
    rcases HI2 with h | h'
    · exfalso; omega
    · have a1 : L.getD (o + (nn - 1 - s)) 0 = p := by
        rw [l1, show P ++ (x1 ++ (x2 ++ (y1 ++ (y2 ++ Q)))) = (P ++ x1 ++ x2) ++ (y1 ++ (y2 ++ Q)) by simp, show o + (nn - 1 - s) = (P ++ x1 ++ x2).length + y1.length - 1 by simp only [List.length_append]; omega]
        exact lastD _ _ _ _ hp
      have a2 : L.getD (o + s) 0 = q := by
        rw [l1, show P ++ (x1 ++ (x2 ++ (y1 ++ (y2 ++ Q)))) = (P ++ x1) ++ (x2 ++ (y1 ++ (y2 ++ Q))) by simp, show o + s = (P ++ x1).length by simp only [List.length_append]; omega]
        exact headD _ _ _ _ hq
      rw [a1, a2] at h'
      exact h'
  rw [ex] at hX
  rw [ey] at hY
  intro u v a1 a2 a3 a4
  rw [ex, ey]
  exact merged hX hY hp1 hp2 a1 a2 a3 a4
set_option maxHeartbeats 16000000 in
set_option maxRecDepth 100000 in
theorem symR (key : Int → Int) (hK : Cmp key) : ∀ (N : Nat) (g o n c cap : Nat) (a m b : Nat) (P X Y Q : List Int) (W : World) (base : Nat) (ok : Nat → Prop) (_ : Rw W base ok g cap (P ++ (X ++ (Y ++ Q)))) (_ : a + X.length = m) (_ : m + Y.length = b) (_ : 0 < X.length) (_ : 0 < Y.length) (_ : srt key X) (_ : srt key Y) (_ : P.length = o + a) (_ : b ≤ n) (_ : n ≤ 1099511627776) (_ : X.length + Y.length ≤ N),
    Calls Tryd.prog 246 #[.slice (some ⟨g, o, none⟩) n c, .int .i64 a, .int .i64 m, .int .i64 b, .func (.func 171) #[] #[]] W fun e w' => e = .returned (.tuple #[]) ∧ ∃ Z, srt key Z ∧ same key (X ++ Y) Z ∧ Rw w' base ok g cap (P ++ (Z ++ Q)) ∧ W.grownBy w' (some g) := by
  intro N
  induction N with
  | zero =>
    intro g o n c cap a m b P X Y Q W base ok hR h1 h2 p1 p2 hX hY ha hbn hn hN
    omega
  | succ N ih =>
    intro g o n c cap a m b P X Y Q W base ok hR hXm hYb p1 p2 hX hY ha hbn hn hN
    by_cases c1 : X.length = 1
    · obtain ⟨x, rfl⟩ := List.length_eq_one_iff.1 c1
      exact symR1 key hK g o n c cap a m b P x Y Q W base ok hR hXm hYb hY ha hbn hn
    by_cases c2 : Y.length = 1
    · obtain ⟨y, rfl⟩ := List.length_eq_one_iff.1 c2
      exact symR2 key hK g o n c cap a m b P X y Q W base ok hR hXm (by omega) (by omega) hX ha hbn hn
    obtain ⟨mid, hmid⟩ : ∃ mid, (a + b) / 2 = mid := ⟨_, rfl⟩
    obtain ⟨nn, hnn⟩ : ∃ nn, mid + m = nn := ⟨_, rfl⟩
    obtain ⟨pp, hpp⟩ : ∃ pp, nn - 1 = pp := ⟨_, rfl⟩
    have HP := Aside0.mk (fun s h => Found.parts (s := s) (Q := Q) h hXm hYb p1 p2 ha hX hY hmid hnn)
    obtain ⟨L, hL⟩ : ∃ L, P ++ (X ++ (Y ++ Q)) = L := ⟨_, rfl⟩
    have hlen : L.length = o + b + Q.length := by rw [← hL]; simp only [List.length_append]; omega
    rw [hL] at hR
    have HR := Aside0.mk hR
    have HL := Aside0.mk hL
    have IH := Aside0.mk ih
    have hXY : X.length + Y.length ≤ N + 1 := hN
    obtain ⟨k1, hk1⟩ : ∃ k, X.length = k := ⟨_, rfl⟩
    obtain ⟨k2, hk2⟩ : ∃ k, Y.length = k := ⟨_, rfl⟩
    have KK := Aside0.mk (And.intro hk1 hk2)
    rw [hk1] at hXm p1 c1 hXY
    rw [hk2] at hYb p2 c2 hXY
    have AR : Aside0 (a + k1 = m ∧ m + k2 = b ∧ 1 < k1 ∧ 1 < k2 ∧ k1 + k2 ≤ N + 1 ∧ P.length = o + a ∧ b ≤ n ∧ n ≤ 1099511627776 ∧ (a + b) / 2 = mid ∧ mid + m = nn ∧ nn - 1 = pp ∧ L.length = o + b + Q.length) := ⟨by refine ⟨hXm, hYb, by omega, by omega, hXY, ha, hbn, hn, hmid, hnn, hpp, hlen⟩⟩
    have b3 : mid ≤ n := by omega
    have b4 : nn ≤ 2 * n := by omega
    have b7 : a + 2 ≤ m := by omega
    have b8 : m + 2 ≤ b := by omega
    have b9 : b ≤ n := hbn
    have b10 : n ≤ 1099511627776 := hn
    clear hX hY hR hL ih hN hk1 hk2 hXm hYb p1 p2 c1 c2 hXY ha hbn hn hmid hnn hpp hlen
    go_enter Tryd.func246, Tryd.ntmps246
    have h1 : ((m : Int) - a == 1) = false := beq_eq_false_iff_ne.mpr (by have := AR.out; omega)
    have h2 : ((b : Int) - m == 1) = false := beq_eq_false_iff_ne.mpr (by have := AR.out; omega)
    have e1 : ((a : Int) + b) / 2 = mid := by have := AR.out; omega
    have e2 : (mid : Int) + m = nn := by have := AR.out; omega
    go_upto_if 140 with (fail)
    clear h1 h2 e1 e2
    go_cut [20, 21] from 129 to 147 (fun v20 v21 wr => wr = W ∧ ∃ (s0 r0 : Nat), v20 = .int .i64 s0 ∧ v21 = .int .i64 r0 ∧ a ≤ s0 ∧ s0 ≤ r0 ∧ r0 ≤ m ∧ r0 ≤ mid ∧ nn ≤ b + s0 ∧ Aside0 (s0 = a ∨ nn = s0 + b) ∧ Aside0 (r0 = m ∨ r0 = mid))
    case first =>
      by_cases hc : mid < m
      · have e1 : (nn : Int) - b = (nn - b : Nat) := by have := AR.out; omega
        go_wp2_with fail
        go_meet
        have := AR.out
        exact ⟨rfl, nn - b, mid, by first | rfl | (congr 1; omega), rfl, by omega, by omega, by omega, by omega, by omega, ⟨by omega⟩, ⟨by omega⟩⟩
      · go_wp2_with fail
        go_meet
        have := AR.out
        exact ⟨rfl, a, m, rfl, rfl, by omega, by omega, by omega, by omega, by omega, ⟨by omega⟩, ⟨by omega⟩⟩
    case rest =>
      obtain ⟨hw, s0, r0, rfl, rfl, g1, g2, g3, g4, g5, g6, g7⟩ := hcut
      have hw' := hw.symm
      subst hw'
      have e3 : (nn : Int) - 1 = pp := by have := AR.out; omega
      have b6 : (pp : Int) ≤ 2 * n := by have := AR.out; omega
      go_upto_block 8 with (fail)
      clear e3
      go_cut [20] from 147 to 175 (fun v20 wr => ∃ s : Nat, v20 = .int .i64 s ∧ Aside0 (Found key P X Y Q o a m b mid nn s) ∧ Aside0 (Rw wr base ok g cap L) ∧ Aside0 (W.grownBy wr (some g)))
      case first =>
        go_wp2_with fail
        go_loopw [20, 21] (fun v20 v21 wr => ∃ (s r : Nat), v20 = .int .i64 s ∧ v21 = .int .i64 r ∧ s0 ≤ s ∧ s ≤ r ∧ r ≤ r0 ∧ Aside0 (s = s0 ∨ (1 ≤ s ∧ key (L.getD (o + (s - 1)) 0) ≤ key (L.getD (o + (nn - s)) 0))) ∧ Aside0 (r = r0 ∨ key (L.getD (o + (nn - 1 - r)) 0) < key (L.getD (o + r) 0)) ∧ Aside0 (Rw wr base ok g cap L) ∧ Aside0 (W.grownBy wr (some g))) (fun v20 v21 _ => (intOf v21).toNat - (intOf v20).toNat)
        case atStart => exact ⟨s0, r0, rfl, rfl, Nat.le_refl _, g2, Nat.le_refl _, ⟨.inl rfl⟩, ⟨.inl rfl⟩, HR, ⟨World.grownBy.refl _ _⟩⟩
        case round =>
          obtain ⟨s, r, rfl, rfl, q1, q2, q3, HI1, HI2, HM, HG⟩ := hrel
          clear HR
          by_cases hlt : s < r
          · obtain ⟨cc, hcc⟩ : ∃ cc, (s + r) / 2 = cc := ⟨_, rfl⟩
            obtain ⟨d, hd⟩ : ∃ d, nn - 1 - cc = d := ⟨_, rfl⟩
            have hm := HM.out
            obtain ⟨k1, f1⟩ := hm.at_ (o + d) (by have := AR.out; omega)
            obtain ⟨k2, f2⟩ := hm.at_ (o + cc) (by have := AR.out; omega)
            obtain ⟨y, hy⟩ : ∃ y, L.getD (o + d) 0 = y := ⟨_, rfl⟩
            obtain ⟨x, hx⟩ : ∃ x, L.getD (o + cc) 0 = x := ⟨_, rfl⟩
            rw [hy] at k1
            rw [hx] at k2
            clear hm
            have k0 := hK.1 x
            have k3 := hK.1 y
            have i0 : (0 : Int) ≤ d := by have := AR.out; omega
            have i1 : (d : Int) < (n : Int) := by have := AR.out; omega
            have i3 : (0 : Int) ≤ cc := by have := AR.out; omega
            have i4 : (cc : Int) < (n : Int) := by have := AR.out; omega
            have i8 : IntKind.i64.wrap (d : Int) = d := by rw [IntKind.wrap_i64]; have := AR.out; omega
            have i9 : IntKind.i64.wrap (key y - key x) = key y - key x := by rw [IntKind.wrap_i64]; have := AR.out; omega
            have e5 : ((s : Int) + r) / 2 = cc := by have := AR.out; omega
            have e6 : (pp : Int) - cc = d := by have := AR.out; omega
            by_cases hc : key y < key x
            · have i7 : (key y - key x < 0) = True := eq_true (by have := AR.out; omega)
              go_wp2
              go_quiet (exact hK.quiet y x _ _)
              go_wp2
              go_roundw
              case rel => exact ⟨s, cc, rfl, rfl, q1, by have := AR.out; omega, by have := AR.out; omega, HI1, ⟨.inr (by rw [hd, hy, hx]; exact hc)⟩, ⟨HM.out.drewN _⟩, ⟨gr_drewN HG.out _⟩⟩
              case measure => simp [intOf]; omega
            · have i7 : (key y - key x < 0) = False := eq_false (by have := AR.out; omega)
              go_wp2
              go_quiet (exact hK.quiet y x _ _)
              go_wp2
              go_roundw
              case rel =>
                exact ⟨cc + 1, r, by go_num, rfl, by have := AR.out; omega, by have := AR.out; omega, q3, ⟨.inr ⟨by have := AR.out; omega, by rw [show cc + 1 - 1 = cc by have := AR.out; omega, show nn - (cc + 1) = d by have := AR.out; omega, hx, hy]; have := AR.out; omega⟩⟩, HI2, ⟨HM.out.drewN _⟩, ⟨gr_drewN HG.out _⟩⟩
              case measure => simp [intOf]; omega
          · obtain rfl : s = r := by omega
            go_wp2_with fail
            go_meet
            refine ⟨s, rfl, ⟨?_⟩, HM, HG⟩
            refine ⟨by have := AR.out; omega, by have := AR.out; omega, by have := AR.out; omega, by have := AR.out; omega, ?_, ?_⟩
            · rcases HI1.out with h | h
              · exact .inl (by have := g6.out; omega)
              · rw [HL.out]; exact .inr h
            · rcases HI2.out with h | h
              · exact .inl (by have := g7.out; omega)
              · rw [HL.out]; exact .inr h
      case rest =>
        obtain ⟨s, rfl, HF, HM, HG⟩ := hcut
        clear g1 g2 g3 g4 g5 g6 g7 HR b6
        obtain ⟨x1, x2, y1, y2, ex, ey, q1, q2, q3, q4, sx1, sx2, sy1, sy2, hmg⟩ := HP.out s HF.out
        have hf1 := HF.out.l4
        have hml : Aside0 (Rw wc base ok g cap (P ++ x1 ++ (x2 ++ (y1 ++ (y2 ++ Q))))) := ⟨by have h := HM.out; rw [← HL.out, ex, ey] at h; simpa using h⟩
        have EX := Aside0.mk ex
        have EY := Aside0.mk ey
        have HMG := Aside0.mk hmg
        have SX1 := Aside0.mk sx1
        have SX2 := Aside0.mk sx2
        have SY1 := Aside0.mk sy1
        have SY2 := Aside0.mk sy2
        obtain ⟨en, hen⟩ : ∃ en, nn - s = en := ⟨_, rfl⟩
        have QR : Aside0 (a + x1.length = s ∧ s + x2.length = m ∧ s + y1.length = mid ∧ m + y1.length + y2.length = b ∧ nn - s = en ∧ nn ≤ b + s) := ⟨q1, q2, q3, q4, hen, hf1⟩
        have e7 : (nn : Int) - s = en := by have := AR.out; omega
        have g1 : s ≤ n := by have := AR.out; omega
        have g2 : en ≤ n := by have := AR.out; omega
        clear HP HM HL HF KK ex ey hmg sx1 sx2 sy1 sy2 q1 q2 q3 q4 hen hf1
        go_upto_region 39 with (fail)
        clear e7
        go_cut [185] from 175 to 186 (fun v wr => wr = wc ∧ ∃ t : Bool, v = .bool t ∧ Aside0 (t = decide (s < m ∧ m < en)))
        case first =>
          by_cases h3 : s < m
          · by_cases h4 : m < en
            · go_wp2_with fail
              go_meet
              exact ⟨rfl, true, rfl, ⟨by simp [h3, h4]⟩⟩
            · go_wp2_with fail
              go_meet
              exact ⟨rfl, false, rfl, ⟨by simp [h3, h4]⟩⟩
          · go_wp2_with fail
            go_meet
            exact ⟨rfl, false, rfl, ⟨by simp [h3]⟩⟩
        case rest =>
          obtain ⟨hw, t, rfl, HT⟩ := hcut
          subst hw
          go_upto_if 185 with (fail)
          go_cut [] from 185 to 192 (fun wr => Aside0 (Rw wr base ok g cap (P ++ (x1 ++ (y1 ++ (x2 ++ (y2 ++ Q)))))) ∧ Aside0 (W.grownBy wr (some g)))
          case first =>
            by_cases h3 : s < m ∧ m < en
            · obtain rfl : t = true := by rw [HT.out]; exact decide_eq_true h3
              obtain ⟨h3, h4⟩ := h3
              go_wp2_with (go_at_call 257; ((with_reducible refine (rotateR _ g o n c cap s m en (P ++ x1) x2 y1 (y2 ++ Q) _ base ok hml.out (by have := QR.out; have := AR.out; omega) (by have := QR.out; have := AR.out; omega) (by have := QR.out; have := AR.out; omega) (by have := QR.out; have := AR.out; omega) (by rw [List.length_append]; have := QR.out; have := AR.out; omega) (by have := QR.out; have := AR.out; omega) (by have := AR.out; omega)).mono ?_); rintro e w1 ⟨rfl, hr1, hg1⟩; have HR1 := Aside0.mk hr1; have HG1 := Aside0.mk (gr_trans HG.out hg1); clear hr1 hg1))
              go_meet
              exact ⟨⟨by have h := HR1.out; simpa using h⟩, HG1⟩
            · obtain rfl : t = false := by rw [HT.out]; exact decide_eq_false h3
              clear h3
              go_wp2_with fail
              go_meet
              refine ⟨⟨?_⟩, HG⟩
              have h := hml.out
              have hq := QR.out
              by_cases h5 : s < m
              · obtain rfl : y1 = [] := List.eq_nil_of_length_eq_zero (by have h3 := of_decide_eq_false HT.out.symm; have := AR.out; omega)
                simpa using h
              · obtain rfl : x2 = [] := List.eq_nil_of_length_eq_zero (by have := AR.out; omega)
                simpa using h
          case rest =>
            obtain ⟨HM1, HG1⟩ := hcut
            clear hml HG HT
            go_upto_region 41 with (fail)
            go_cut [199] from 191 to 200 (fun v wr => wr = wc ∧ ∃ t : Bool, v = .bool t ∧ Aside0 (t = decide (a < s ∧ s < mid)))
            case first =>
              by_cases h3 : a < s
              · by_cases h4 : s < mid
                · go_wp2_with fail
                  go_meet
                  exact ⟨rfl, true, rfl, ⟨by simp [h3, h4]⟩⟩
                · go_wp2_with fail
                  go_meet
                  exact ⟨rfl, false, rfl, ⟨by simp [h3, h4]⟩⟩
              · go_wp2_with fail
                go_meet
                exact ⟨rfl, false, rfl, ⟨by simp [h3]⟩⟩
            case rest =>
              obtain ⟨hw, t, rfl, HT⟩ := hcut
              subst hw
              go_upto_if 199 with (fail)
              go_cut [] from 199 to 206 (fun wr => ∃ U, Aside0 (srt key U) ∧ Aside0 (same key (x1 ++ y1) U) ∧ Aside0 (Rw wr base ok g cap (P ++ (U ++ (x2 ++ (y2 ++ Q))))) ∧ Aside0 (W.grownBy wr (some g)))
              case first =>
                by_cases h3 : a < s ∧ s < mid
                · obtain rfl : t = true := by rw [HT.out]; exact decide_eq_true h3
                  obtain ⟨h3, h4⟩ := h3
                  go_wp2_with (go_at_call 246; ((with_reducible refine (IH.out g o n c cap a s mid P x1 y1 (x2 ++ (y2 ++ Q)) _ base ok HM1.out (by have := QR.out; have := AR.out; omega) (by have := QR.out; have := AR.out; omega) (by have := QR.out; have := AR.out; omega) (by have := QR.out; have := AR.out; omega) SX1.out SY1.out (by have := AR.out; omega) (by have := AR.out; omega) (by have := AR.out; omega) (by have := QR.out; have := AR.out; omega)).mono ?_); rintro e w2 ⟨rfl, U, su, mu, hr2, hg2⟩; have SU := Aside0.mk su; have MU := Aside0.mk mu; have HR2 := Aside0.mk hr2; have HG2 := Aside0.mk (gr_trans HG1.out hg2); clear su mu hr2 hg2))
                  go_meet
                  exact ⟨U, SU, MU, HR2, HG2⟩
                · obtain rfl : t = false := by rw [HT.out]; exact decide_eq_false h3
                  clear h3
                  go_wp2_with fail
                  go_meet
                  have h := HM1.out
                  have hq := QR.out
                  by_cases h5 : a < s
                  · obtain rfl : y1 = [] := List.eq_nil_of_length_eq_zero (by have h3 := of_decide_eq_false HT.out.symm; have := AR.out; omega)
                    exact ⟨x1, SX1, ⟨by rw [List.append_nil]; exact same.refl _⟩, ⟨by simpa using h⟩, HG1⟩
                  · obtain rfl : x1 = [] := List.eq_nil_of_length_eq_zero (by have := AR.out; omega)
                    exact ⟨y1, SY1, ⟨same.refl _⟩, ⟨by simpa using h⟩, HG1⟩
              case rest =>
                obtain ⟨U, SU, MU, HM2, HG2⟩ := hcut
                clear HM1 HG1 HT
                have lu : U.length = x1.length + y1.length := by rw [← MU.out.perm_len, List.length_append]
                have QU : Aside0 (U.length = x1.length + y1.length) := ⟨lu⟩
                clear lu
                have HQ2 : Aside0 (Rw wc base ok g cap (P ++ U ++ (x2 ++ (y2 ++ Q)))) := ⟨by have h := HM2.out; simpa using h⟩
                by_cases h3 : mid < en
                · by_cases h4 : en < b
                  · go_wp2_with (go_at_call 246; ((with_reducible refine (IH.out g o n c cap mid en b (P ++ U) x2 y2 Q _ base ok HQ2.out (by have := QR.out; have := AR.out; omega) (by have := QR.out; have := AR.out; omega) (by have := QR.out; have := AR.out; omega) (by have := QR.out; have := AR.out; omega) SX2.out SY2.out (by rw [List.length_append]; have := QR.out; have := AR.out; have := QU.out; omega) (by have := AR.out; omega) (by have := AR.out; omega) (by have := QR.out; have := AR.out; omega)).mono ?_); rintro e w3 ⟨rfl, V, sv, mv, hr3, hg3⟩; have SV := Aside0.mk sv; have MV := Aside0.mk mv; have HR3 := Aside0.mk hr3; have HG3 := Aside0.mk (gr_trans HG2.out hg3); clear sv mv hr3 hg3))
                    go_end0
                    refine ⟨rfl, U ++ V, (HMG.out U V SU.out MU.out SV.out MV.out).1, (HMG.out U V SU.out MU.out SV.out MV.out).2, ?_, HG3.out⟩
                    have h := HR3.out
                    simpa using h
                  · go_wp2_with fail
                    go_end0
                    have hq := QR.out
                    obtain rfl : y2 = [] := List.eq_nil_of_length_eq_zero (by have := AR.out; omega)
                    have hm := HMG.out U x2 SU.out MU.out SX2.out (by rw [List.append_nil]; exact same.refl _)
                    exact ⟨rfl, U ++ x2, hm.1, hm.2, by have h := HQ2.out; simpa using h, HG2.out⟩
                · go_wp2_with fail
                  go_end0
                  have hq := QR.out
                  obtain rfl : x2 = [] := List.eq_nil_of_length_eq_zero (by have := AR.out; omega)
                  have hm := HMG.out U y2 SU.out MU.out SY2.out (same.refl _)
                  exact ⟨rfl, U ++ y2, hm.1, hm.2, by have h := HQ2.out; simpa using h, HG2.out⟩
end Go.Proofs.YtiabgmddnddeiaaDoor.Sor
