/- A plain text of the law FnNormer, what the law uses of it, taken out by a program of this session's (wip/tool/prune.py). -/
import Derived.Test.YtiabgmddnddeiaaDoorProg
import Derived.Below
import Derived.Deep.Draws
import Derived.Deep.AppendLies
import Derived.Maps.AppendAt
import Derived.OwnWalk
import Derived.Laws.BytesArg
import Derived.Laws.MakeOwn
import Derived.Laws.OwnMore
import Derived.Deep.OwnRows
import Derived.Tactics
import Derived.Lib.ConvBytes
import Derived.Laws.Slices
import Derived.WalkKit
import Derived.KernelRfl
import Derived.RowKit3
import Derived.Deep.LoopGhost
import Derived.Deep.QuietTactic
import Derived.BigQuiet
import Derived.WideLaws
import Derived.Deep.DeepCutAuto
import Derived.Deep.CutBlock
import Derived.Deep.RegionHeld3
import Derived.Laws.Rows
import Derived.Lib.AppendStr
import Derived.ArgAppend
import Derived.Laws.IdiomCopy
import Derived.OrdersHeld
import Derived.Laws.BitsLemmas
import Derived.RowKit
import Derived.Test.YtiabgmddnddeiaaDoorVFnNormerPts
import Derived.Test.YtiabgmddnddeiaaDoorShelf
import Derived.Test.YtiabgmddnddeiaaDoorVFnNormerSrt
import Derived.RegionTactic
import Derived.ChangeAlike
import Derived.Deep.Light
import Derived.Test.YtiabgmddnddeiaaDoorVFnNormerW0
import Derived.Test.YtiabgmddnddeiaaDoorVFnNormerSorC
set_option linter.unusedVariables false
set_option linter.unusedSimpArgs false
namespace Go.Proofs.YtiabgmddnddeiaaDoor.Sor
open Go.RowKit Go.Proofs.YtiabgmddnddeiaaDoorW.PrintWords Go.Proofs.YtiabgmddnddeiaaDoorW.PrintLast Go.Proofs.YtiabgmddnddeiaaDoorW.PrintMore YtiabgmddnddeiaaDoorSrt
def flat : List (List Int) → List Int
  | [] => []
  | c :: t => c ++ flat t
theorem flat_append (a b : List (List Int)) : flat (a ++ b) = flat a ++ flat b := by
  induction a with
  | nil => rfl
  | cons c t ih => show c ++ flat (t ++ b) = c ++ flat t ++ flat b; rw [ih, List.append_assoc]
theorem flat_one (a : List Int) : flat [a] = a := by show a ++ [] = a; simp
def Ful (key : Int → Int) (s : Nat) (l : List (List Int)) : Prop := ∀ c ∈ l, c.length = s ∧ srt key c
theorem Ful.snoc {key : Int → Int} {s : Nat} {l : List (List Int)} {c : List Int} (h : Ful key s l) (h1 : c.length = s) (h2 : srt key c) : Ful key s (l ++ [c]) := by
  intro x hx
  rcases List.mem_append.1 hx with hx | hx
  · exact h x hx
  · rw [List.mem_singleton.1 hx]; exact ⟨h1, h2⟩
set_option maxHeartbeats 4000000 in
set_option maxRecDepth 100000 in
theorem stableR (key : Int → Int) (hK : Cmp key) (g o n c cap : Nat) (P X Q : List Int) (W : World) (base : Nat) (ok : Nat → Prop) (hR : Rw W base ok g cap (P ++ (X ++ Q))) (hX : X.length = n) (ha : P.length = o) (hn : n ≤ 1000000000000) :
    Calls Tryd.prog 221 #[.slice (some ⟨g, o, none⟩) n c, .int .i64 n, .func (.func 171) #[] #[]] W fun e w' => e = .returned (.tuple #[]) ∧ ∃ Z, srt key Z ∧ same key X Z ∧ Rw w' base ok g cap (P ++ (Z ++ Q)) ∧ W.grownBy w' (some g) := by
  have HR := Aside0.mk hR
  have HX := Aside0.mk hX
  clear hR hX
  go_enter Tryd.func221, Tryd.ntmps221
  go_upto_block 0 with (fail)
  go_cut [7, 8] (fun v7 v8 wr => ∃ (css : List (List Int)) (R : List Int), v7 = .int .i64 (flat css).length ∧ R.length < 20 ∧ Aside0 (Ful key 20 css) ∧ Aside0 ((flat css).length + R.length = n) ∧ Aside0 (same key X (flat css ++ R)) ∧ Aside0 (Rw wr base ok g cap (P ++ (flat css ++ (R ++ Q)))) ∧ Aside0 (W.grownBy wr (some g)))
  case first =>
    go_wp2_with fail
    go_loopw [7, 8] (fun v7 v8 wr => ∃ (css : List (List Int)) (R : List Int) (a : Nat), v7 = .int .i64 a ∧ v8 = .int .i64 ((a : Int) + 20) ∧ (flat css).length = a ∧ a + R.length = n ∧ Aside0 (Ful key 20 css) ∧ Aside0 (same key X (flat css ++ R)) ∧ Aside0 (Rw wr base ok g cap (P ++ (flat css ++ (R ++ Q)))) ∧ Aside0 (W.grownBy wr (some g))) (fun v7 _ _ => n - (intOf v7).toNat)
    case atStart => exact ⟨[], X, 0, rfl, rfl, rfl, by rw [HX.out]; omega, ⟨fun c hc => by cases hc⟩, ⟨same.refl _⟩, HR, ⟨World.grownBy.refl W _⟩⟩
    case round =>
      obtain ⟨css, R, a, rfl, rfl, q1, q2, HF, HS, HM, HG⟩ := hrel
      clear HR
      by_cases hlt : a + 20 ≤ n
      · obtain ⟨A, B, rfl, c1, c2⟩ := cut (l := R) 20 (by omega)
        rw [List.length_append] at q2
        have hm := HM.out
        have e1 : P ++ (flat css ++ (A ++ B ++ Q)) = (P ++ flat css) ++ (A ++ (B ++ Q)) := by simp
        rw [e1] at hm
        have H1 := fun (z1 : (P ++ flat css).length = o + a) => insR key hK g o n c cap a (a + 20) (P ++ flat css) A (B ++ Q) wr base ok hm (by omega) z1 (by omega) (by omega)
        have H2 := H1 (by rw [List.length_append]; omega)
        simp only [Int.natCast_add, Int.cast_ofNat_Int] at H2
        clear hm e1 HM H1
        go_wp2_with (go_at_call 245; ((with_reducible refine H2.mono ?_); rintro e w1 ⟨rfl, Z, sz, mz, hr1, hg1⟩; have SZ := Aside0.mk sz; have MZ := Aside0.mk mz; have HR1 := Aside0.mk hr1; have HG1 := Aside0.mk (gr_trans HG.out hg1); have lz := mz.perm_len; clear sz mz hr1 hg1 H2))
        go_roundw
        case rel =>
          refine ⟨css ++ [Z], B, a + 20, by go_num, by go_num, ?_, by omega, ⟨HF.out.snoc (by omega) SZ.out⟩, ⟨?_⟩, ⟨?_⟩, HG1⟩
          · rw [flat_append, flat_one, List.length_append]; omega
          · refine HS.out.trans ?_
            rw [flat_append, flat_one, List.append_assoc]
            exact (same.refl _).append (MZ.out.append (same.refl _))
          · have h := HR1.out
            rw [flat_append, flat_one]
            simpa using h
        case measure => simp [intOf]; omega
      · go_wp2_with fail
        go_meet
        exact ⟨css, R, by rw [q1], by omega, HF, ⟨by omega⟩, HS, HM, HG⟩
  case rest =>
    obtain ⟨css, R, rfl, q1, HF, HN, HS, HM, HG⟩ := hcut
    clear HR
    obtain ⟨a, ha2⟩ : ∃ a, (flat css).length = a := ⟨_, rfl⟩
    have hm := HM.out
    have hnn := HN.out
    rw [ha2] at hnn ⊢
    have e1 : P ++ (flat css ++ (R ++ Q)) = (P ++ flat css) ++ (R ++ Q) := by simp
    rw [e1] at hm
    have H2 := insR key hK g o n c cap a n (P ++ flat css) R Q wc base ok hm (by omega) (by rw [List.length_append]; omega) (by omega) (by omega)
    clear hm e1 HM
    have b1 : (n : Int) ≤ 1000000000000 := by omega
    have b2 : (a : Int) ≤ n := by omega
    clear hnn
    go_upto_block 2 with (go_at_call 245; ((with_reducible refine H2.mono ?_); rintro e w1 ⟨rfl, Z, sz, mz, hr1, hg1⟩; have SZ := Aside0.mk sz; have MZ := Aside0.mk mz; have HR1 := Aside0.mk hr1; have HG1 := Aside0.mk (gr_trans HG.out hg1); have lz := mz.perm_len; clear sz mz hr1 hg1 H2))
    have HL := Aside0.mk lz
    have HA := Aside0.mk ha2
    clear lz ha2
    go_wp2_with fail
    go_loopw [6, 7, 8, 9] (fun v6 v7 v8 v9 wr => ∃ (css : List (List Int)) (R : List Int) (s : Nat), v6 = .int .i64 s ∧ 0 < s ∧ R.length < s ∧ s ≤ 2000000000000 ∧ Aside0 (srt key R) ∧ Aside0 (Ful key s css) ∧ Aside0 ((flat css).length + R.length = n) ∧ Aside0 (same key X (flat css ++ R)) ∧ Aside0 (Rw wr base ok g cap (P ++ (flat css ++ (R ++ Q)))) ∧ Aside0 (W.grownBy wr (some g))) (fun v6 _ _ _ _ => n - (intOf v6).toNat)
    case atStart =>
      refine ⟨css, Z, 20, rfl, by omega, by have := HL.out; omega, by omega, SZ, HF, ⟨by have := HL.out; have := HA.out; have := HN.out; omega⟩, ⟨HS.out.trans ((same.refl _).append MZ.out)⟩, ⟨?_⟩, HG1⟩
      have h := HR1.out
      simpa using h
    case round =>
      clear HF HS SZ MZ HR1 HG1 HG HL HA HN q1 b2
      obtain ⟨css, R, s, rfl, p1, p2, p3, SR, HF, HN, HS, HM, HG⟩ := hrel
      by_cases hlt : s < n
      · go_upto_block 4 with (fail)
        go_cut [7, 8] (fun v7 v8 wr => ∃ (ds cs : List (List Int)) (a : Nat), v7 = .int .i64 a ∧ n < a + 2 * s ∧ a ≤ n ∧ Aside0 ((flat ds).length = a) ∧ Aside0 (a + (flat cs).length + R.length = n) ∧ Aside0 (Ful key (2 * s) ds) ∧ Aside0 (Ful key s cs) ∧ Aside0 (same key X (flat ds ++ (flat cs ++ R))) ∧ Aside0 (Rw wr base ok g cap (P ++ (flat ds ++ (flat cs ++ (R ++ Q))))) ∧ Aside0 (W.grownBy wr (some g)))
        case first =>
          go_wp2_with fail
          go_loopw [7, 8] (fun v7 v8 wr => ∃ (ds cs : List (List Int)) (a : Nat), v7 = .int .i64 a ∧ v8 = .int .i64 ((a : Int) + 2 * s) ∧ a ≤ n ∧ Aside0 ((flat ds).length = a) ∧ Aside0 (a + (flat cs).length + R.length = n) ∧ Aside0 (Ful key (2 * s) ds) ∧ Aside0 (Ful key s cs) ∧ Aside0 (same key X (flat ds ++ (flat cs ++ R))) ∧ Aside0 (Rw wr base ok g cap (P ++ (flat ds ++ (flat cs ++ (R ++ Q))))) ∧ Aside0 (W.grownBy wr (some g))) (fun v7 _ _ => n - (intOf v7).toNat)
          case atStart => exact ⟨[], css, 0, rfl, by go_num, by omega, ⟨rfl⟩, ⟨by have := HN.out; omega⟩, ⟨fun c hc => by cases hc⟩, HF, ⟨by simpa [flat] using HS.out⟩, ⟨by simpa [flat] using HM.out⟩, HG⟩
          case round =>
            clear HM HG HS HF
            obtain ⟨ds, cs, a, rfl, rfl, q0, HA, HB, HD, HC, HS, HM, HG⟩ := hrel
            by_cases hle : a + 2 * s ≤ n
            · obtain ⟨A, B, cs, rfl⟩ : ∃ A B t, cs = A :: B :: t := by
                have hb := HB.out
                have hc := HC.out
                cases cs with
                | nil => simp only [flat, List.length_nil] at hb; omega
                | cons A t =>
                  cases t with
                  | nil => have := (hc A (by simp)).1; simp only [flat, List.append_nil] at hb; omega
                  | cons B t => exact ⟨A, B, t, rfl⟩
              have hA := HC.out A (by simp)
              have hB := HC.out B (by simp)
              have hm := HM.out
              have e1 : P ++ (flat ds ++ (flat (A :: B :: cs) ++ (R ++ Q))) = (P ++ flat ds) ++ (A ++ (B ++ (flat cs ++ (R ++ Q)))) := by simp [flat]
              rw [e1] at hm
              have H2 := symR key hK _ g o n c cap a (a + s) (a + 2 * s) (P ++ flat ds) A B (flat cs ++ (R ++ Q)) wr base ok hm (by omega) (by omega) (by omega) (by omega) hA.2 hB.2 (by rw [List.length_append]; have := HA.out; omega) (by omega) (by omega) (Nat.le_refl _)
              simp only [Int.natCast_add, Int.natCast_mul, Int.cast_ofNat_Int] at H2
              have HAB := Aside0.mk (And.intro hA hB)
              clear hm e1 HM hA hB
              go_wp2_with (go_at_call 246; ((with_reducible refine H2.mono ?_); rintro e w1 ⟨rfl, Z, sz, mz, hr1, hg1⟩; have SZ := Aside0.mk sz; have MZ := Aside0.mk mz; have HR1 := Aside0.mk hr1; have HG1 := Aside0.mk (gr_trans HG.out hg1); clear sz mz hr1 hg1 H2))
              have lz : Z.length = 2 * s := by rw [← MZ.out.perm_len, List.length_append]; have := HAB.out; omega
              go_roundw
              case rel =>
                refine ⟨ds ++ [Z], cs, a + 2 * s, by go_num, by go_num, by omega, ⟨?_⟩, ⟨?_⟩, ⟨HD.out.snoc lz SZ.out⟩, ⟨fun c hc => HC.out c (by simp [hc])⟩, ⟨?_⟩, ⟨?_⟩, HG1⟩
                · rw [flat_append, flat_one, List.length_append]; have := HA.out; omega
                · have hb := HB.out
                  have hab := HAB.out
                  simp only [flat, List.length_append] at hb
                  omega
                · refine HS.out.trans ?_
                  rw [flat_append, flat_one]
                  show same key (flat ds ++ (A ++ (B ++ flat cs) ++ R)) (flat ds ++ Z ++ (flat cs ++ R))
                  have h := (same.refl (flat ds)).append (MZ.out.append (same.refl (key := key) (flat cs ++ R)))
                  simpa using h
                · have h := HR1.out
                  rw [flat_append, flat_one]
                  simpa using h
              case measure => simp [intOf]; omega
            · go_wp2_with fail
              go_meet
              exact ⟨ds, cs, a, rfl, by omega, q0, HA, HB, HD, HC, HS, HM, HG⟩
        case rest =>
          obtain ⟨ds, cs, a, rfl, q0, q1, HA, HB, HD, HC, HS2, HM2, HG2⟩ := hcut
          clear HM HG HS HF HN
          cases cs with
          | nil =>
            have hb : a + R.length = n := by have hb := HB.out; simp only [flat, List.length_nil] at hb; omega
            have hge : n ≤ a + s := by omega
            clear hb
            go_wp2_with fail
            go_roundw
            case rel => exact ⟨ds, R, 2 * s, by go_num, by omega, by omega, by omega, SR, HD, ⟨by have := HA.out; have hb := HB.out; simp only [flat, List.length_nil] at hb; omega⟩, ⟨by simpa [flat] using HS2.out⟩, ⟨by simpa [flat] using HM2.out⟩, HG2⟩
            case measure => simp [intOf]; omega
          | cons A t =>
            obtain rfl : t = [] := by
              cases t with
              | nil => rfl
              | cons B t =>
                exfalso
                have hb := HB.out
                have h1 := (HC.out A (by simp)).1
                have h2 := (HC.out B (by simp)).1
                simp only [flat, List.length_append] at hb
                omega
            have hA := HC.out A (by simp)
            have hb : a + s + R.length = n := by have hb := HB.out; simp only [flat, List.append_nil] at hb; omega
            by_cases hR0 : R.length = 0
            · obtain rfl : R = [] := List.eq_nil_of_length_eq_zero hR0
              have hge : n ≤ a + s := by omega
              clear hb hR0
              have hA1 := Aside0.mk hA
              clear hA
              go_wp2_with fail
              go_roundw
              case rel => exact ⟨ds, A, 2 * s, by go_num, by omega, by have := hA1.out; omega, by omega, ⟨hA1.out.2⟩, HD, ⟨by have := HA.out; have hb := HB.out; simp only [flat, List.append_nil, List.length_nil] at hb; omega⟩, ⟨by simpa [flat] using HS2.out⟩, ⟨by simpa [flat] using HM2.out⟩, HG2⟩
              case measure => simp [intOf]; omega
            · have hlt2 : a + s < n := by omega
              have hm := HM2.out
              have e1 : P ++ (flat ds ++ (flat [A] ++ (R ++ Q))) = (P ++ flat ds) ++ (A ++ (R ++ Q)) := by simp [flat]
              rw [e1] at hm
              have H2 := symR key hK _ g o n c cap a (a + s) n (P ++ flat ds) A R Q _ base ok hm (by omega) (by omega) (by omega) (by omega) hA.2 SR.out (by rw [List.length_append]; have := HA.out; omega) (by omega) (by omega) (Nat.le_refl _)
              simp only [Int.natCast_add, Int.cast_ofNat_Int] at H2
              have hA1 := Aside0.mk hA
              clear hm e1 HM2 hA hb hR0
              go_wp2_with (go_at_call 246; ((with_reducible refine H2.mono ?_); rintro e w1 ⟨rfl, Z, sz, mz, hr1, hg1⟩; have SZ := Aside0.mk sz; have MZ := Aside0.mk mz; have HR1 := Aside0.mk hr1; have HG1 := Aside0.mk (gr_trans HG2.out hg1); clear sz mz hr1 hg1 H2))
              have lz : Z.length = s + R.length := by rw [← MZ.out.perm_len, List.length_append]; have := hA1.out; omega
              go_roundw
              case rel =>
                refine ⟨ds, Z, 2 * s, by go_num, by omega, by omega, by omega, SZ, HD, ⟨?_⟩, ⟨?_⟩, ⟨?_⟩, HG1⟩
                · have := HA.out; have hb := HB.out; have := hA1.out; simp only [flat, List.append_nil] at hb; omega
                · refine HS2.out.trans ?_
                  rw [flat_one]
                  exact (same.refl _).append MZ.out
                · have h := HR1.out
                  simpa using h
              case measure => simp [intOf]; omega
      · go_wp2_with fail
        go_end0
        have hn0 := HN.out
        have hf := HF.out
        cases css with
        | nil =>
          exact ⟨rfl, R, SR.out, by simpa [flat] using HS.out, by simpa [flat] using HM.out, HG.out⟩
        | cons A t =>
          have h1 := (hf A (by simp)).1
          obtain rfl : t = [] := by
            cases t with
            | nil => rfl
            | cons B t =>
              exfalso
              have h2 := (hf B (by simp)).1
              simp only [flat, List.length_append] at hn0
              omega
          obtain rfl : R = [] := List.eq_nil_of_length_eq_zero (by simp only [flat, List.append_nil] at hn0; omega)
          exact ⟨rfl, A, (hf A (by simp)).2, by simpa [flat] using HS.out, by simpa [flat] using HM.out, HG.out⟩
set_option maxHeartbeats 4000000 in
theorem sortR (key : Int → Int) (hK : Cmp key) (g o n c cap : Nat) (P X Q : List Int) (W : World) (base : Nat) (ok : Nat → Prop) (hR : Rw W base ok g cap (P ++ (X ++ Q))) (hX : X.length = n) (ha : P.length = o) (hn : n ≤ 1000000000000) :
    Calls Tryd.prog 170 #[.slice (some ⟨g, o, none⟩) n c, .func (.func 171) #[] #[]] W fun e w' => e = .returned (.tuple #[]) ∧ ∃ Z, srt key Z ∧ same key X Z ∧ Rw w' base ok g cap (P ++ (Z ++ Q)) ∧ W.grownBy w' (some g) := by
  have H := stableR key hK g o n c cap P X Q W base ok hR hX ha hn
  clear hR
  go_enter Tryd.func170, Tryd.ntmps170
  go_wp2_with (go_at_call 221; ((with_reducible refine H.mono ?_); rintro e w1 ⟨rfl, Z, sz, mz, hr1, hg1⟩))
  go_end0
  exact ⟨rfl, Z, sz, mz, hr1, hg1⟩
end Go.Proofs.YtiabgmddnddeiaaDoor.Sor
