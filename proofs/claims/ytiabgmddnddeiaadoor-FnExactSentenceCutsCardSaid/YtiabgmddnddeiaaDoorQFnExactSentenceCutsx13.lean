/- The law FnExactSentenceCuts: at every input the call answers true (this text: contracts on its way, by a program of this session's; no condition of ours). -/
import Derived.Test.YtiabgmddnddeiaaDoorQFnExactSentenceCutsx0
import Derived.Test.YtiabgmddnddeiaaDoorQFnExactSentenceCutsx1
import Derived.Test.YtiabgmddnddeiaaDoorQFnExactSentenceCutsx10
import Derived.Test.YtiabgmddnddeiaaDoorQFnExactSentenceCutsx11
import Derived.Test.YtiabgmddnddeiaaDoorQFnExactSentenceCutsx12
namespace Go.Proofs.YtiabgmddnddeiaaDoor.QFnExactSentenceCuts
open Go.RowKit Go.Proofs.YtiabgmddnddeiaaDoorW.PrintWords Go.Proofs.YtiabgmddnddeiaaDoorW.PrintLast Go.Proofs.YtiabgmddnddeiaaDoorW.PrintMore
attribute [local go_sem] max2_int min2_int max_two min_two max_three min_three max_four min_four   -- for this text's walks alone
set_option linter.unusedVariables false
set_option linter.unusedSimpArgs false

/-! ### impl_SentenceCuts: function 34 -/
mutual
def impl_SentenceCuts.l0 : Nat → ByteArray → List (S121) → List Int → List Bool → List Bool → List Int → Int → Int → Option (List Int)
 | 0, _, _, _, _, _, _, _, _ => none
 | k + 1, x0, x3, x4, x5, x6, x30, x31, x32 => if x32 < x31 then (if 0 ≤ x32 then (if x32 < (x30.length : Int) then (if (rd x30 x32) = 10 then (if 0 ≤ (wrap64 (x32 + 1)) then (if (wrap64 (x32 + 1)) < (x6.length : Int) then (impl_SentenceCuts.l0 k x0 x3 x4 x5 (x6.set ((wrap64 (x32 + 1)) : Int).toNat true) x30 x31 (wrap64 (x32 + 1))) else (none)) else (none)) else (if (rd x30 x32) = 13 then (if (wrap64 (x32 + 1)) = (x4.length : Int) then (if 0 ≤ (wrap64 (x32 + 1)) then (if (wrap64 (x32 + 1)) < (x6.length : Int) then (impl_SentenceCuts.l0 k x0 x3 x4 x5 (x6.set ((wrap64 (x32 + 1)) : Int).toNat true) x30 x31 (wrap64 (x32 + 1))) else (none)) else (none)) else (if 0 ≤ (wrap64 (x32 + 1)) then (if (wrap64 (x32 + 1)) < (x4.length : Int) then (if (rd x4 (wrap64 (x32 + 1))) = 10 then (impl_SentenceCuts.l0 k x0 x3 x4 x5 x6 x30 x31 (wrap64 (x32 + 1))) else (if (wrap64 (x32 + 1)) < (x6.length : Int) then (impl_SentenceCuts.l0 k x0 x3 x4 x5 (x6.set ((wrap64 (x32 + 1)) : Int).toNat true) x30 x31 (wrap64 (x32 + 1))) else (none))) else (none)) else (none))) else (impl_SentenceCuts.l0 k x0 x3 x4 x5 x6 x30 x31 (wrap64 (x32 + 1))))) else (none)) else (none)) else (impl_SentenceCuts.l1 k x0 x3 x4 x5 x6 0)
def impl_SentenceCuts.l1 : Nat → ByteArray → List (S121) → List Int → List Bool → List Bool → Int → Option (List Int)
 | 0, _, _, _, _, _, _ => none
 | k + 1, x0, x3, x4, x5, x6, x9 => if x9 < (x4.length : Int) then (if 0 ≤ x9 then ((impl_one.f (rd x4 x9) (⟨#[46, 33, 63]⟩ : ByteArray)).bind fun t296 => (if t296 = true then (impl_SentenceCuts.l2 k x0 x3 x4 x5 x6 x9 true) else (impl_SentenceCuts.l1 k x0 x3 x4 x5 x6 (wrap64 (x9 + 1))))) else (none)) else (impl_SentenceCuts.l6 k x0 x3 x5 x6 (x4.length : Int) 0)
def impl_SentenceCuts.j3 : Nat → ByteArray → List (S121) → List Int → List Bool → List Bool → Int → Bool → Option (List Int)
 | 0, _, _, _, _, _, _, _ => none
 | k + 1, x0, x3, x4, x5, x6, x10, x11 => impl_SentenceCuts.l3 k x0 x3 x4 x5 x6 x10 x11
def impl_SentenceCuts.j5 : Nat → ByteArray → List (S121) → List Int → List Bool → List Bool → Int → Bool → Option (List Int)
 | 0, _, _, _, _, _, _, _ => none
 | k + 1, x0, x3, x4, x5, x6, x10, x11 => impl_SentenceCuts.l4 k x0 x3 x4 x5 x6 x10 x11 x10
def impl_SentenceCuts.j7 : Nat → ByteArray → List (S121) → List Int → List Bool → List Bool → Int → Bool → Int → Option (List Int)
 | 0, _, _, _, _, _, _, _, _ => none
 | k + 1, x0, x3, x4, x5, x6, x10, x11, x12 => impl_SentenceCuts.l5 k x0 x3 x4 x5 x6 x10 x11 (decide (x10 > x12)) x10
def impl_SentenceCuts.j9 : Nat → ByteArray → List (S121) → List Int → List Bool → List Bool → Int → Bool → Bool → Int → Option (List Int)
 | 0, _, _, _, _, _, _, _, _, _ => none
 | k + 1, x0, x3, x4, x5, x6, x10, x11, x13, x14 => if x11 = true then (impl_SentenceCuts.j10 k x0 x3 x4 x5 x6 x10 x13 x14 false (decide (x14 < (x4.length : Int)))) else (impl_SentenceCuts.j10 k x0 x3 x4 x5 x6 x10 x13 x14 false false)
def impl_SentenceCuts.j10 : Nat → ByteArray → List (S121) → List Int → List Bool → List Bool → Int → Bool → Int → Bool → Bool → Option (List Int)
 | 0, _, _, _, _, _, _, _, _, _, _ => none
 | k + 1, x0, x3, x4, x5, x6, x10, x13, x14, x15, x147 => if x147 = true then (if 0 ≤ x14 then (if x14 < (x4.length : Int) then ((impl_Category.f (rd x4 x14)).bind fun t307 => (if t307 = 5 then (impl_SentenceCuts.l1 k x0 x3 x4 x5 x6 x10) else (if x13 = true then (if 0 ≤ x10 then (if x10 < (x6.length : Int) then (impl_SentenceCuts.l1 k x0 x3 x4 x5 (x6.set (x10 : Int).toNat true) x10) else (none)) else (none)) else ((impl_isLetter.f (rd x4 x14)).bind fun t309 => (if t309 = true then (impl_SentenceCuts.l1 k x0 x3 x4 x5 x6 x10) else ((impl_isDigit.f (rd x4 x14)).bind fun t310 => (if t310 = true then (impl_SentenceCuts.l1 k x0 x3 x4 x5 x6 x10) else (if 0 ≤ x10 then (if x10 < (x6.length : Int) then (impl_SentenceCuts.l1 k x0 x3 x4 x5 (x6.set (x10 : Int).toNat true) x10) else (none)) else (none))))))))) else (none)) else (none)) else (if x15 = true then (impl_SentenceCuts.l1 k x0 x3 x4 x5 x6 x10) else (if 0 ≤ x10 then (if x10 < (x6.length : Int) then (impl_SentenceCuts.l1 k x0 x3 x4 x5 (x6.set (x10 : Int).toNat true) x10) else (none)) else (none)))
def impl_SentenceCuts.l5 : Nat → ByteArray → List (S121) → List Int → List Bool → List Bool → Int → Bool → Bool → Int → Option (List Int)
 | 0, _, _, _, _, _, _, _, _, _ => none
 | k + 1, x0, x3, x4, x5, x6, x10, x11, x13, x14 => if x14 < (x4.length : Int) then (if 0 ≤ x14 then ((impl_isMark.f (rd x4 x14)).bind fun t305 => (if t305 = true then (impl_SentenceCuts.l5 k x0 x3 x4 x5 x6 x10 x11 x13 (wrap64 (x14 + 1))) else (impl_SentenceCuts.j9 k x0 x3 x4 x5 x6 x10 x11 x13 x14))) else (none)) else (impl_SentenceCuts.j9 k x0 x3 x4 x5 x6 x10 x11 x13 x14)
def impl_SentenceCuts.l4 : Nat → ByteArray → List (S121) → List Int → List Bool → List Bool → Int → Bool → Int → Option (List Int)
 | 0, _, _, _, _, _, _, _, _ => none
 | k + 1, x0, x3, x4, x5, x6, x10, x11, x12 => if x10 < (x4.length : Int) then (if 0 ≤ x10 then ((impl_isSpace.f (rd x4 x10)).bind fun t303 => (if t303 = true then (impl_SentenceCuts.l4 k x0 x3 x4 x5 x6 (wrap64 (x10 + 1)) x11 x12) else (impl_SentenceCuts.j7 k x0 x3 x4 x5 x6 x10 x11 x12))) else (none)) else (impl_SentenceCuts.j7 k x0 x3 x4 x5 x6 x10 x11 x12)
def impl_SentenceCuts.l3 : Nat → ByteArray → List (S121) → List Int → List Bool → List Bool → Int → Bool → Option (List Int)
 | 0, _, _, _, _, _, _, _ => none
 | k + 1, x0, x3, x4, x5, x6, x10, x11 => if x10 < (x4.length : Int) then (if 0 ≤ x10 then ((impl_one.f (rd x4 x10) (⟨#[41, 93, 125, 34, 39]⟩ : ByteArray)).bind fun t301 => (if t301 = true then (impl_SentenceCuts.l3 k x0 x3 x4 x5 x6 (wrap64 (x10 + 1)) x11) else (impl_SentenceCuts.j5 k x0 x3 x4 x5 x6 x10 x11))) else (none)) else (impl_SentenceCuts.j5 k x0 x3 x4 x5 x6 x10 x11)
def impl_SentenceCuts.l2 : Nat → ByteArray → List (S121) → List Int → List Bool → List Bool → Int → Bool → Option (List Int)
 | 0, _, _, _, _, _, _, _ => none
 | k + 1, x0, x3, x4, x5, x6, x10, x11 => if x10 < (x4.length : Int) then (if 0 ≤ x10 then ((impl_one.f (rd x4 x10) (⟨#[46, 33, 63]⟩ : ByteArray)).bind fun t298 => (if t298 = true then (if x11 = true then (impl_SentenceCuts.l2 k x0 x3 x4 x5 x6 (wrap64 (x10 + 1)) ((rd x4 x10) == 46)) else (impl_SentenceCuts.l2 k x0 x3 x4 x5 x6 (wrap64 (x10 + 1)) false)) else (impl_SentenceCuts.j3 k x0 x3 x4 x5 x6 x10 x11))) else (none)) else (impl_SentenceCuts.j3 k x0 x3 x4 x5 x6 x10 x11)
def impl_SentenceCuts.l6 : Nat → ByteArray → List (S121) → List Bool → List Bool → Int → Int → Option (List Int)
 | 0, _, _, _, _, _, _ => none
 | k + 1, x0, x3, x5, x6, x174, x175 => if x175 < x174 then (if 0 ≤ x175 then (if x175 < (x6.length : Int) then (if rdOf false x6 x175 = true then (if x175 < (x5.length : Int) then (impl_SentenceCuts.l6 k x0 x3 x5 (x6.set (x175 : Int).toNat (rdOf false x5 x175)) x174 (wrap64 (x175 + 1))) else (none)) else (impl_SentenceCuts.l6 k x0 x3 x5 (x6.set (x175 : Int).toNat false) x174 (wrap64 (x175 + 1)))) else (none)) else (none)) else ((impl_placesOf.f k x3 (x0.size : Int) x6).bind fun t317 => (some t317))
end
def impl_SentenceCuts.f (k : Nat) (a0 : ByteArray) : Option (List Int) := (impl_long.f a0).bind fun t277 => (if t277 = true then (some ([] : List Int)) else ((W_impl_read.f a0).bind fun t278 => ((impl_onlyPoints.f k t278).bind fun t281 => ((impl_charCuts.f t281).bind fun t284 => (if 0 ≤ (wrap64 ((t281.length : Int) + 1)) then (if (wrap64 ((t281.length : Int) + 1) : Int).toNat ≤ 281474976710656 then (impl_SentenceCuts.l0 k a0 t278 t281 t284 (List.replicate (wrap64 ((t281.length : Int) + 1) : Int).toNat false) t281 (t281.length : Int) 0) else (none)) else (none))))))
theorem impl_SentenceCuts.mono_l : ∀ k, (∀ y0 y1 y2 y3 y4 y5 y6 y7, LeO (impl_SentenceCuts.l0 k y0 y1 y2 y3 y4 y5 y6 y7) (impl_SentenceCuts.l0 (k + 1) y0 y1 y2 y3 y4 y5 y6 y7)) ∧ (∀ y0 y1 y2 y3 y4 y5, LeO (impl_SentenceCuts.l1 k y0 y1 y2 y3 y4 y5) (impl_SentenceCuts.l1 (k + 1) y0 y1 y2 y3 y4 y5)) ∧ (∀ y0 y1 y2 y3 y4 y5 y6, LeO (impl_SentenceCuts.j3 k y0 y1 y2 y3 y4 y5 y6) (impl_SentenceCuts.j3 (k + 1) y0 y1 y2 y3 y4 y5 y6)) ∧ (∀ y0 y1 y2 y3 y4 y5 y6, LeO (impl_SentenceCuts.j5 k y0 y1 y2 y3 y4 y5 y6) (impl_SentenceCuts.j5 (k + 1) y0 y1 y2 y3 y4 y5 y6)) ∧ (∀ y0 y1 y2 y3 y4 y5 y6 y7, LeO (impl_SentenceCuts.j7 k y0 y1 y2 y3 y4 y5 y6 y7) (impl_SentenceCuts.j7 (k + 1) y0 y1 y2 y3 y4 y5 y6 y7)) ∧ (∀ y0 y1 y2 y3 y4 y5 y6 y7 y8, LeO (impl_SentenceCuts.j9 k y0 y1 y2 y3 y4 y5 y6 y7 y8) (impl_SentenceCuts.j9 (k + 1) y0 y1 y2 y3 y4 y5 y6 y7 y8)) ∧ (∀ y0 y1 y2 y3 y4 y5 y6 y7 y8 y9, LeO (impl_SentenceCuts.j10 k y0 y1 y2 y3 y4 y5 y6 y7 y8 y9) (impl_SentenceCuts.j10 (k + 1) y0 y1 y2 y3 y4 y5 y6 y7 y8 y9)) ∧ (∀ y0 y1 y2 y3 y4 y5 y6 y7 y8, LeO (impl_SentenceCuts.l5 k y0 y1 y2 y3 y4 y5 y6 y7 y8) (impl_SentenceCuts.l5 (k + 1) y0 y1 y2 y3 y4 y5 y6 y7 y8)) ∧ (∀ y0 y1 y2 y3 y4 y5 y6 y7, LeO (impl_SentenceCuts.l4 k y0 y1 y2 y3 y4 y5 y6 y7) (impl_SentenceCuts.l4 (k + 1) y0 y1 y2 y3 y4 y5 y6 y7)) ∧ (∀ y0 y1 y2 y3 y4 y5 y6, LeO (impl_SentenceCuts.l3 k y0 y1 y2 y3 y4 y5 y6) (impl_SentenceCuts.l3 (k + 1) y0 y1 y2 y3 y4 y5 y6)) ∧ (∀ y0 y1 y2 y3 y4 y5 y6, LeO (impl_SentenceCuts.l2 k y0 y1 y2 y3 y4 y5 y6) (impl_SentenceCuts.l2 (k + 1) y0 y1 y2 y3 y4 y5 y6)) ∧ (∀ y0 y1 y2 y3 y4 y5, LeO (impl_SentenceCuts.l6 k y0 y1 y2 y3 y4 y5) (impl_SentenceCuts.l6 (k + 1) y0 y1 y2 y3 y4 y5))
 | 0 => ⟨fun _ _ _ _ _ _ _ _ r h => by simp [impl_SentenceCuts.l0] at h, fun _ _ _ _ _ _ r h => by simp [impl_SentenceCuts.l1] at h, fun _ _ _ _ _ _ _ r h => by simp [impl_SentenceCuts.j3] at h, fun _ _ _ _ _ _ _ r h => by simp [impl_SentenceCuts.j5] at h, fun _ _ _ _ _ _ _ _ r h => by simp [impl_SentenceCuts.j7] at h, fun _ _ _ _ _ _ _ _ _ r h => by simp [impl_SentenceCuts.j9] at h, fun _ _ _ _ _ _ _ _ _ _ r h => by simp [impl_SentenceCuts.j10] at h, fun _ _ _ _ _ _ _ _ _ r h => by simp [impl_SentenceCuts.l5] at h, fun _ _ _ _ _ _ _ _ r h => by simp [impl_SentenceCuts.l4] at h, fun _ _ _ _ _ _ _ r h => by simp [impl_SentenceCuts.l3] at h, fun _ _ _ _ _ _ _ r h => by simp [impl_SentenceCuts.l2] at h, fun _ _ _ _ _ _ r h => by simp [impl_SentenceCuts.l6] at h⟩
 | k + 1 => by
  obtain ⟨ih0, ih1, ih2, ih3, ih4, ih5, ih6, ih7, ih8, ih9, ih10, ih11⟩ := impl_SentenceCuts.mono_l k; refine ⟨?_, ?_, ?_, ?_, ?_, ?_, ?_, ?_, ?_, ?_, ?_, ?_⟩
  ·intro y0 y1 y2 y3 y4 y5 y6 y7
   unfold impl_SentenceCuts.l0
   repeat' first
   | (with_reducible exact ih0 _ _ _ _ _ _ _ _)
   | (with_reducible exact ih1 _ _ _ _ _ _)
   | (with_reducible exact ih2 _ _ _ _ _ _ _)
   | (with_reducible exact ih3 _ _ _ _ _ _ _)
   | (with_reducible exact ih4 _ _ _ _ _ _ _ _)
   | (with_reducible exact ih5 _ _ _ _ _ _ _ _ _)
   | (with_reducible exact ih6 _ _ _ _ _ _ _ _ _ _)
   | (with_reducible exact ih7 _ _ _ _ _ _ _ _ _)
   | (with_reducible exact ih8 _ _ _ _ _ _ _ _)
   | (with_reducible exact ih9 _ _ _ _ _ _ _)
   | (with_reducible exact ih10 _ _ _ _ _ _ _)
   | (with_reducible exact ih11 _ _ _ _ _ _)
   | (with_reducible exact impl_onlyPoints.mono _ _)
   | (with_reducible exact impl_placesOf.mono _ _ _ _)
   | (with_reducible exact LeO.refl _)
   | (with_reducible exact LeO.none _)
   | (with_reducible refine LeO.ite ?_ ?_)
   | (with_reducible refine LeO.bind ?_ (fun _ => ?_))
   | exact ih0 _ _ _ _ _ _ _ _
   | exact ih1 _ _ _ _ _ _
   | exact ih2 _ _ _ _ _ _ _
   | exact ih3 _ _ _ _ _ _ _
   | exact ih4 _ _ _ _ _ _ _ _
   | exact ih5 _ _ _ _ _ _ _ _ _
   | exact ih6 _ _ _ _ _ _ _ _ _ _
   | exact ih7 _ _ _ _ _ _ _ _ _
   | exact ih8 _ _ _ _ _ _ _ _
   | exact ih9 _ _ _ _ _ _ _
   | exact ih10 _ _ _ _ _ _ _
   | exact ih11 _ _ _ _ _ _
   | exact impl_onlyPoints.mono _ _
   | exact impl_placesOf.mono _ _ _ _
   | exact LeO.none _
   | refine LeO.ite ?_ ?_
   | refine LeO.bind ?_ (fun _ => ?_)
  ·intro y0 y1 y2 y3 y4 y5
   unfold impl_SentenceCuts.l1
   repeat' first
   | (with_reducible exact ih0 _ _ _ _ _ _ _ _)
   | (with_reducible exact ih1 _ _ _ _ _ _)
   | (with_reducible exact ih2 _ _ _ _ _ _ _)
   | (with_reducible exact ih3 _ _ _ _ _ _ _)
   | (with_reducible exact ih4 _ _ _ _ _ _ _ _)
   | (with_reducible exact ih5 _ _ _ _ _ _ _ _ _)
   | (with_reducible exact ih6 _ _ _ _ _ _ _ _ _ _)
   | (with_reducible exact ih7 _ _ _ _ _ _ _ _ _)
   | (with_reducible exact ih8 _ _ _ _ _ _ _ _)
   | (with_reducible exact ih9 _ _ _ _ _ _ _)
   | (with_reducible exact ih10 _ _ _ _ _ _ _)
   | (with_reducible exact ih11 _ _ _ _ _ _)
   | (with_reducible exact impl_onlyPoints.mono _ _)
   | (with_reducible exact impl_placesOf.mono _ _ _ _)
   | (with_reducible exact LeO.refl _)
   | (with_reducible exact LeO.none _)
   | (with_reducible refine LeO.ite ?_ ?_)
   | (with_reducible refine LeO.bind ?_ (fun _ => ?_))
   | exact ih0 _ _ _ _ _ _ _ _
   | exact ih1 _ _ _ _ _ _
   | exact ih2 _ _ _ _ _ _ _
   | exact ih3 _ _ _ _ _ _ _
   | exact ih4 _ _ _ _ _ _ _ _
   | exact ih5 _ _ _ _ _ _ _ _ _
   | exact ih6 _ _ _ _ _ _ _ _ _ _
   | exact ih7 _ _ _ _ _ _ _ _ _
   | exact ih8 _ _ _ _ _ _ _ _
   | exact ih9 _ _ _ _ _ _ _
   | exact ih10 _ _ _ _ _ _ _
   | exact ih11 _ _ _ _ _ _
   | exact impl_onlyPoints.mono _ _
   | exact impl_placesOf.mono _ _ _ _
   | exact LeO.none _
   | refine LeO.ite ?_ ?_
   | refine LeO.bind ?_ (fun _ => ?_)
  ·intro y0 y1 y2 y3 y4 y5 y6
   unfold impl_SentenceCuts.j3
   repeat' first
   | (with_reducible exact ih0 _ _ _ _ _ _ _ _)
   | (with_reducible exact ih1 _ _ _ _ _ _)
   | (with_reducible exact ih2 _ _ _ _ _ _ _)
   | (with_reducible exact ih3 _ _ _ _ _ _ _)
   | (with_reducible exact ih4 _ _ _ _ _ _ _ _)
   | (with_reducible exact ih5 _ _ _ _ _ _ _ _ _)
   | (with_reducible exact ih6 _ _ _ _ _ _ _ _ _ _)
   | (with_reducible exact ih7 _ _ _ _ _ _ _ _ _)
   | (with_reducible exact ih8 _ _ _ _ _ _ _ _)
   | (with_reducible exact ih9 _ _ _ _ _ _ _)
   | (with_reducible exact ih10 _ _ _ _ _ _ _)
   | (with_reducible exact ih11 _ _ _ _ _ _)
   | (with_reducible exact impl_onlyPoints.mono _ _)
   | (with_reducible exact impl_placesOf.mono _ _ _ _)
   | (with_reducible exact LeO.refl _)
   | (with_reducible exact LeO.none _)
   | (with_reducible refine LeO.ite ?_ ?_)
   | (with_reducible refine LeO.bind ?_ (fun _ => ?_))
   | exact ih0 _ _ _ _ _ _ _ _
   | exact ih1 _ _ _ _ _ _
   | exact ih2 _ _ _ _ _ _ _
   | exact ih3 _ _ _ _ _ _ _
   | exact ih4 _ _ _ _ _ _ _ _
   | exact ih5 _ _ _ _ _ _ _ _ _
   | exact ih6 _ _ _ _ _ _ _ _ _ _
   | exact ih7 _ _ _ _ _ _ _ _ _
   | exact ih8 _ _ _ _ _ _ _ _
   | exact ih9 _ _ _ _ _ _ _
   | exact ih10 _ _ _ _ _ _ _
   | exact ih11 _ _ _ _ _ _
   | exact impl_onlyPoints.mono _ _
   | exact impl_placesOf.mono _ _ _ _
   | exact LeO.none _
   | refine LeO.ite ?_ ?_
   | refine LeO.bind ?_ (fun _ => ?_)
  ·intro y0 y1 y2 y3 y4 y5 y6
   unfold impl_SentenceCuts.j5
   repeat' first
   | (with_reducible exact ih0 _ _ _ _ _ _ _ _)
   | (with_reducible exact ih1 _ _ _ _ _ _)
   | (with_reducible exact ih2 _ _ _ _ _ _ _)
   | (with_reducible exact ih3 _ _ _ _ _ _ _)
   | (with_reducible exact ih4 _ _ _ _ _ _ _ _)
   | (with_reducible exact ih5 _ _ _ _ _ _ _ _ _)
   | (with_reducible exact ih6 _ _ _ _ _ _ _ _ _ _)
   | (with_reducible exact ih7 _ _ _ _ _ _ _ _ _)
   | (with_reducible exact ih8 _ _ _ _ _ _ _ _)
   | (with_reducible exact ih9 _ _ _ _ _ _ _)
   | (with_reducible exact ih10 _ _ _ _ _ _ _)
   | (with_reducible exact ih11 _ _ _ _ _ _)
   | (with_reducible exact impl_onlyPoints.mono _ _)
   | (with_reducible exact impl_placesOf.mono _ _ _ _)
   | (with_reducible exact LeO.refl _)
   | (with_reducible exact LeO.none _)
   | (with_reducible refine LeO.ite ?_ ?_)
   | (with_reducible refine LeO.bind ?_ (fun _ => ?_))
   | exact ih0 _ _ _ _ _ _ _ _
   | exact ih1 _ _ _ _ _ _
   | exact ih2 _ _ _ _ _ _ _
   | exact ih3 _ _ _ _ _ _ _
   | exact ih4 _ _ _ _ _ _ _ _
   | exact ih5 _ _ _ _ _ _ _ _ _
   | exact ih6 _ _ _ _ _ _ _ _ _ _
   | exact ih7 _ _ _ _ _ _ _ _ _
   | exact ih8 _ _ _ _ _ _ _ _
   | exact ih9 _ _ _ _ _ _ _
   | exact ih10 _ _ _ _ _ _ _
   | exact ih11 _ _ _ _ _ _
   | exact impl_onlyPoints.mono _ _
   | exact impl_placesOf.mono _ _ _ _
   | exact LeO.none _
   | refine LeO.ite ?_ ?_
   | refine LeO.bind ?_ (fun _ => ?_)
  ·intro y0 y1 y2 y3 y4 y5 y6 y7
   unfold impl_SentenceCuts.j7
   repeat' first
   | (with_reducible exact ih0 _ _ _ _ _ _ _ _)
   | (with_reducible exact ih1 _ _ _ _ _ _)
   | (with_reducible exact ih2 _ _ _ _ _ _ _)
   | (with_reducible exact ih3 _ _ _ _ _ _ _)
   | (with_reducible exact ih4 _ _ _ _ _ _ _ _)
   | (with_reducible exact ih5 _ _ _ _ _ _ _ _ _)
   | (with_reducible exact ih6 _ _ _ _ _ _ _ _ _ _)
   | (with_reducible exact ih7 _ _ _ _ _ _ _ _ _)
   | (with_reducible exact ih8 _ _ _ _ _ _ _ _)
   | (with_reducible exact ih9 _ _ _ _ _ _ _)
   | (with_reducible exact ih10 _ _ _ _ _ _ _)
   | (with_reducible exact ih11 _ _ _ _ _ _)
   | (with_reducible exact impl_onlyPoints.mono _ _)
   | (with_reducible exact impl_placesOf.mono _ _ _ _)
   | (with_reducible exact LeO.refl _)
   | (with_reducible exact LeO.none _)
   | (with_reducible refine LeO.ite ?_ ?_)
   | (with_reducible refine LeO.bind ?_ (fun _ => ?_))
   | exact ih0 _ _ _ _ _ _ _ _
   | exact ih1 _ _ _ _ _ _
   | exact ih2 _ _ _ _ _ _ _
   | exact ih3 _ _ _ _ _ _ _
   | exact ih4 _ _ _ _ _ _ _ _
   | exact ih5 _ _ _ _ _ _ _ _ _
   | exact ih6 _ _ _ _ _ _ _ _ _ _
   | exact ih7 _ _ _ _ _ _ _ _ _
   | exact ih8 _ _ _ _ _ _ _ _
   | exact ih9 _ _ _ _ _ _ _
   | exact ih10 _ _ _ _ _ _ _
   | exact ih11 _ _ _ _ _ _
   | exact impl_onlyPoints.mono _ _
   | exact impl_placesOf.mono _ _ _ _
   | exact LeO.none _
   | refine LeO.ite ?_ ?_
   | refine LeO.bind ?_ (fun _ => ?_)
  ·intro y0 y1 y2 y3 y4 y5 y6 y7 y8
   unfold impl_SentenceCuts.j9
   repeat' first
   | (with_reducible exact ih0 _ _ _ _ _ _ _ _)
   | (with_reducible exact ih1 _ _ _ _ _ _)
   | (with_reducible exact ih2 _ _ _ _ _ _ _)
   | (with_reducible exact ih3 _ _ _ _ _ _ _)
   | (with_reducible exact ih4 _ _ _ _ _ _ _ _)
   | (with_reducible exact ih5 _ _ _ _ _ _ _ _ _)
   | (with_reducible exact ih6 _ _ _ _ _ _ _ _ _ _)
   | (with_reducible exact ih7 _ _ _ _ _ _ _ _ _)
   | (with_reducible exact ih8 _ _ _ _ _ _ _ _)
   | (with_reducible exact ih9 _ _ _ _ _ _ _)
   | (with_reducible exact ih10 _ _ _ _ _ _ _)
   | (with_reducible exact ih11 _ _ _ _ _ _)
   | (with_reducible exact impl_onlyPoints.mono _ _)
   | (with_reducible exact impl_placesOf.mono _ _ _ _)
   | (with_reducible exact LeO.refl _)
   | (with_reducible exact LeO.none _)
   | (with_reducible refine LeO.ite ?_ ?_)
   | (with_reducible refine LeO.bind ?_ (fun _ => ?_))
   | exact ih0 _ _ _ _ _ _ _ _
   | exact ih1 _ _ _ _ _ _
   | exact ih2 _ _ _ _ _ _ _
   | exact ih3 _ _ _ _ _ _ _
   | exact ih4 _ _ _ _ _ _ _ _
   | exact ih5 _ _ _ _ _ _ _ _ _
   | exact ih6 _ _ _ _ _ _ _ _ _ _
   | exact ih7 _ _ _ _ _ _ _ _ _
   | exact ih8 _ _ _ _ _ _ _ _
   | exact ih9 _ _ _ _ _ _ _
   | exact ih10 _ _ _ _ _ _ _
   | exact ih11 _ _ _ _ _ _
   | exact impl_onlyPoints.mono _ _
   | exact impl_placesOf.mono _ _ _ _
   | exact LeO.none _
   | refine LeO.ite ?_ ?_
   | refine LeO.bind ?_ (fun _ => ?_)
  ·intro y0 y1 y2 y3 y4 y5 y6 y7 y8 y9
   unfold impl_SentenceCuts.j10
   repeat' first
   | (with_reducible exact ih0 _ _ _ _ _ _ _ _)
   | (with_reducible exact ih1 _ _ _ _ _ _)
   | (with_reducible exact ih2 _ _ _ _ _ _ _)
   | (with_reducible exact ih3 _ _ _ _ _ _ _)
   | (with_reducible exact ih4 _ _ _ _ _ _ _ _)
   | (with_reducible exact ih5 _ _ _ _ _ _ _ _ _)
   | (with_reducible exact ih6 _ _ _ _ _ _ _ _ _ _)
   | (with_reducible exact ih7 _ _ _ _ _ _ _ _ _)
   | (with_reducible exact ih8 _ _ _ _ _ _ _ _)
   | (with_reducible exact ih9 _ _ _ _ _ _ _)
   | (with_reducible exact ih10 _ _ _ _ _ _ _)
   | (with_reducible exact ih11 _ _ _ _ _ _)
   | (with_reducible exact impl_onlyPoints.mono _ _)
   | (with_reducible exact impl_placesOf.mono _ _ _ _)
   | (with_reducible exact LeO.refl _)
   | (with_reducible exact LeO.none _)
   | (with_reducible refine LeO.ite ?_ ?_)
   | (with_reducible refine LeO.bind ?_ (fun _ => ?_))
   | exact ih0 _ _ _ _ _ _ _ _
   | exact ih1 _ _ _ _ _ _
   | exact ih2 _ _ _ _ _ _ _
   | exact ih3 _ _ _ _ _ _ _
   | exact ih4 _ _ _ _ _ _ _ _
   | exact ih5 _ _ _ _ _ _ _ _ _
   | exact ih6 _ _ _ _ _ _ _ _ _ _
   | exact ih7 _ _ _ _ _ _ _ _ _
   | exact ih8 _ _ _ _ _ _ _ _
   | exact ih9 _ _ _ _ _ _ _
   | exact ih10 _ _ _ _ _ _ _
   | exact ih11 _ _ _ _ _ _
   | exact impl_onlyPoints.mono _ _
   | exact impl_placesOf.mono _ _ _ _
   | exact LeO.none _
   | refine LeO.ite ?_ ?_
   | refine LeO.bind ?_ (fun _ => ?_)
  ·intro y0 y1 y2 y3 y4 y5 y6 y7 y8
   unfold impl_SentenceCuts.l5
   repeat' first
   | (with_reducible exact ih0 _ _ _ _ _ _ _ _)
   | (with_reducible exact ih1 _ _ _ _ _ _)
   | (with_reducible exact ih2 _ _ _ _ _ _ _)
   | (with_reducible exact ih3 _ _ _ _ _ _ _)
   | (with_reducible exact ih4 _ _ _ _ _ _ _ _)
   | (with_reducible exact ih5 _ _ _ _ _ _ _ _ _)
   | (with_reducible exact ih6 _ _ _ _ _ _ _ _ _ _)
   | (with_reducible exact ih7 _ _ _ _ _ _ _ _ _)
   | (with_reducible exact ih8 _ _ _ _ _ _ _ _)
   | (with_reducible exact ih9 _ _ _ _ _ _ _)
   | (with_reducible exact ih10 _ _ _ _ _ _ _)
   | (with_reducible exact ih11 _ _ _ _ _ _)
   | (with_reducible exact impl_onlyPoints.mono _ _)
   | (with_reducible exact impl_placesOf.mono _ _ _ _)
   | (with_reducible exact LeO.refl _)
   | (with_reducible exact LeO.none _)
   | (with_reducible refine LeO.ite ?_ ?_)
   | (with_reducible refine LeO.bind ?_ (fun _ => ?_))
   | exact ih0 _ _ _ _ _ _ _ _
   | exact ih1 _ _ _ _ _ _
   | exact ih2 _ _ _ _ _ _ _
   | exact ih3 _ _ _ _ _ _ _
   | exact ih4 _ _ _ _ _ _ _ _
   | exact ih5 _ _ _ _ _ _ _ _ _
   | exact ih6 _ _ _ _ _ _ _ _ _ _
   | exact ih7 _ _ _ _ _ _ _ _ _
   | exact ih8 _ _ _ _ _ _ _ _
   | exact ih9 _ _ _ _ _ _ _
   | exact ih10 _ _ _ _ _ _ _
   | exact ih11 _ _ _ _ _ _
   | exact impl_onlyPoints.mono _ _
   | exact impl_placesOf.mono _ _ _ _
   | exact LeO.none _
   | refine LeO.ite ?_ ?_
   | refine LeO.bind ?_ (fun _ => ?_)
  ·intro y0 y1 y2 y3 y4 y5 y6 y7
   unfold impl_SentenceCuts.l4
   repeat' first
   | (with_reducible exact ih0 _ _ _ _ _ _ _ _)
   | (with_reducible exact ih1 _ _ _ _ _ _)
   | (with_reducible exact ih2 _ _ _ _ _ _ _)
   | (with_reducible exact ih3 _ _ _ _ _ _ _)
   | (with_reducible exact ih4 _ _ _ _ _ _ _ _)
   | (with_reducible exact ih5 _ _ _ _ _ _ _ _ _)
   | (with_reducible exact ih6 _ _ _ _ _ _ _ _ _ _)
   | (with_reducible exact ih7 _ _ _ _ _ _ _ _ _)
   | (with_reducible exact ih8 _ _ _ _ _ _ _ _)
   | (with_reducible exact ih9 _ _ _ _ _ _ _)
   | (with_reducible exact ih10 _ _ _ _ _ _ _)
   | (with_reducible exact ih11 _ _ _ _ _ _)
   | (with_reducible exact impl_onlyPoints.mono _ _)
   | (with_reducible exact impl_placesOf.mono _ _ _ _)
   | (with_reducible exact LeO.refl _)
   | (with_reducible exact LeO.none _)
   | (with_reducible refine LeO.ite ?_ ?_)
   | (with_reducible refine LeO.bind ?_ (fun _ => ?_))
   | exact ih0 _ _ _ _ _ _ _ _
   | exact ih1 _ _ _ _ _ _
   | exact ih2 _ _ _ _ _ _ _
   | exact ih3 _ _ _ _ _ _ _
   | exact ih4 _ _ _ _ _ _ _ _
   | exact ih5 _ _ _ _ _ _ _ _ _
   | exact ih6 _ _ _ _ _ _ _ _ _ _
   | exact ih7 _ _ _ _ _ _ _ _ _
   | exact ih8 _ _ _ _ _ _ _ _
   | exact ih9 _ _ _ _ _ _ _
   | exact ih10 _ _ _ _ _ _ _
   | exact ih11 _ _ _ _ _ _
   | exact impl_onlyPoints.mono _ _
   | exact impl_placesOf.mono _ _ _ _
   | exact LeO.none _
   | refine LeO.ite ?_ ?_
   | refine LeO.bind ?_ (fun _ => ?_)
  ·intro y0 y1 y2 y3 y4 y5 y6
   unfold impl_SentenceCuts.l3
   repeat' first
   | (with_reducible exact ih0 _ _ _ _ _ _ _ _)
   | (with_reducible exact ih1 _ _ _ _ _ _)
   | (with_reducible exact ih2 _ _ _ _ _ _ _)
   | (with_reducible exact ih3 _ _ _ _ _ _ _)
   | (with_reducible exact ih4 _ _ _ _ _ _ _ _)
   | (with_reducible exact ih5 _ _ _ _ _ _ _ _ _)
   | (with_reducible exact ih6 _ _ _ _ _ _ _ _ _ _)
   | (with_reducible exact ih7 _ _ _ _ _ _ _ _ _)
   | (with_reducible exact ih8 _ _ _ _ _ _ _ _)
   | (with_reducible exact ih9 _ _ _ _ _ _ _)
   | (with_reducible exact ih10 _ _ _ _ _ _ _)
   | (with_reducible exact ih11 _ _ _ _ _ _)
   | (with_reducible exact impl_onlyPoints.mono _ _)
   | (with_reducible exact impl_placesOf.mono _ _ _ _)
   | (with_reducible exact LeO.refl _)
   | (with_reducible exact LeO.none _)
   | (with_reducible refine LeO.ite ?_ ?_)
   | (with_reducible refine LeO.bind ?_ (fun _ => ?_))
   | exact ih0 _ _ _ _ _ _ _ _
   | exact ih1 _ _ _ _ _ _
   | exact ih2 _ _ _ _ _ _ _
   | exact ih3 _ _ _ _ _ _ _
   | exact ih4 _ _ _ _ _ _ _ _
   | exact ih5 _ _ _ _ _ _ _ _ _
   | exact ih6 _ _ _ _ _ _ _ _ _ _
   | exact ih7 _ _ _ _ _ _ _ _ _
   | exact ih8 _ _ _ _ _ _ _ _
   | exact ih9 _ _ _ _ _ _ _
   | exact ih10 _ _ _ _ _ _ _
   | exact ih11 _ _ _ _ _ _
   | exact impl_onlyPoints.mono _ _
   | exact impl_placesOf.mono _ _ _ _
   | exact LeO.none _
   | refine LeO.ite ?_ ?_
   | refine LeO.bind ?_ (fun _ => ?_)
  ·intro y0 y1 y2 y3 y4 y5 y6
   unfold impl_SentenceCuts.l2
   repeat' first
   | (with_reducible exact ih0 _ _ _ _ _ _ _ _)
   | (with_reducible exact ih1 _ _ _ _ _ _)
   | (with_reducible exact ih2 _ _ _ _ _ _ _)
   | (with_reducible exact ih3 _ _ _ _ _ _ _)
   | (with_reducible exact ih4 _ _ _ _ _ _ _ _)
   | (with_reducible exact ih5 _ _ _ _ _ _ _ _ _)
   | (with_reducible exact ih6 _ _ _ _ _ _ _ _ _ _)
   | (with_reducible exact ih7 _ _ _ _ _ _ _ _ _)
   | (with_reducible exact ih8 _ _ _ _ _ _ _ _)
   | (with_reducible exact ih9 _ _ _ _ _ _ _)
   | (with_reducible exact ih10 _ _ _ _ _ _ _)
   | (with_reducible exact ih11 _ _ _ _ _ _)
   | (with_reducible exact impl_onlyPoints.mono _ _)
   | (with_reducible exact impl_placesOf.mono _ _ _ _)
   | (with_reducible exact LeO.refl _)
   | (with_reducible exact LeO.none _)
   | (with_reducible refine LeO.ite ?_ ?_)
   | (with_reducible refine LeO.bind ?_ (fun _ => ?_))
   | exact ih0 _ _ _ _ _ _ _ _
   | exact ih1 _ _ _ _ _ _
   | exact ih2 _ _ _ _ _ _ _
   | exact ih3 _ _ _ _ _ _ _
   | exact ih4 _ _ _ _ _ _ _ _
   | exact ih5 _ _ _ _ _ _ _ _ _
   | exact ih6 _ _ _ _ _ _ _ _ _ _
   | exact ih7 _ _ _ _ _ _ _ _ _
   | exact ih8 _ _ _ _ _ _ _ _
   | exact ih9 _ _ _ _ _ _ _
   | exact ih10 _ _ _ _ _ _ _
   | exact ih11 _ _ _ _ _ _
   | exact impl_onlyPoints.mono _ _
   | exact impl_placesOf.mono _ _ _ _
   | exact LeO.none _
   | refine LeO.ite ?_ ?_
   | refine LeO.bind ?_ (fun _ => ?_)
  intro y0 y1 y2 y3 y4 y5
  unfold impl_SentenceCuts.l6
  repeat' first
  | (with_reducible exact ih0 _ _ _ _ _ _ _ _)
  | (with_reducible exact ih1 _ _ _ _ _ _)
  | (with_reducible exact ih2 _ _ _ _ _ _ _)
  | (with_reducible exact ih3 _ _ _ _ _ _ _)
  | (with_reducible exact ih4 _ _ _ _ _ _ _ _)
  | (with_reducible exact ih5 _ _ _ _ _ _ _ _ _)
  | (with_reducible exact ih6 _ _ _ _ _ _ _ _ _ _)
  | (with_reducible exact ih7 _ _ _ _ _ _ _ _ _)
  | (with_reducible exact ih8 _ _ _ _ _ _ _ _)
  | (with_reducible exact ih9 _ _ _ _ _ _ _)
  | (with_reducible exact ih10 _ _ _ _ _ _ _)
  | (with_reducible exact ih11 _ _ _ _ _ _)
  | (with_reducible exact impl_onlyPoints.mono _ _)
  | (with_reducible exact impl_placesOf.mono _ _ _ _)
  | (with_reducible exact LeO.refl _)
  | (with_reducible exact LeO.none _)
  | (with_reducible refine LeO.ite ?_ ?_)
  | (with_reducible refine LeO.bind ?_ (fun _ => ?_))
  | exact ih0 _ _ _ _ _ _ _ _
  | exact ih1 _ _ _ _ _ _
  | exact ih2 _ _ _ _ _ _ _
  | exact ih3 _ _ _ _ _ _ _
  | exact ih4 _ _ _ _ _ _ _ _
  | exact ih5 _ _ _ _ _ _ _ _ _
  | exact ih6 _ _ _ _ _ _ _ _ _ _
  | exact ih7 _ _ _ _ _ _ _ _ _
  | exact ih8 _ _ _ _ _ _ _ _
  | exact ih9 _ _ _ _ _ _ _
  | exact ih10 _ _ _ _ _ _ _
  | exact ih11 _ _ _ _ _ _
  | exact impl_onlyPoints.mono _ _
  | exact impl_placesOf.mono _ _ _ _
  | exact LeO.none _
  | refine LeO.ite ?_ ?_
  | refine LeO.bind ?_ (fun _ => ?_)
theorem impl_SentenceCuts.mono : ∀ a0 k, LeO (impl_SentenceCuts.f k a0) (impl_SentenceCuts.f (k + 1) a0) := by
 intro a0 k
 obtain ⟨ih0, ih1, ih2, ih3, ih4, ih5, ih6, ih7, ih8, ih9, ih10, ih11⟩ := impl_SentenceCuts.mono_l k
 unfold impl_SentenceCuts.f
 repeat' first
   | (with_reducible exact ih0 _ _ _ _ _ _ _ _)
   | (with_reducible exact ih1 _ _ _ _ _ _)
   | (with_reducible exact ih2 _ _ _ _ _ _ _)
   | (with_reducible exact ih3 _ _ _ _ _ _ _)
   | (with_reducible exact ih4 _ _ _ _ _ _ _ _)
   | (with_reducible exact ih5 _ _ _ _ _ _ _ _ _)
   | (with_reducible exact ih6 _ _ _ _ _ _ _ _ _ _)
   | (with_reducible exact ih7 _ _ _ _ _ _ _ _ _)
   | (with_reducible exact ih8 _ _ _ _ _ _ _ _)
   | (with_reducible exact ih9 _ _ _ _ _ _ _)
   | (with_reducible exact ih10 _ _ _ _ _ _ _)
   | (with_reducible exact ih11 _ _ _ _ _ _)
   | (with_reducible exact impl_onlyPoints.mono _ _)
   | (with_reducible exact impl_placesOf.mono _ _ _ _)
   | (with_reducible exact LeO.refl _)
   | (with_reducible exact LeO.none _)
   | (with_reducible refine LeO.ite ?_ ?_)
   | (with_reducible refine LeO.bind ?_ (fun _ => ?_))
   | exact ih0 _ _ _ _ _ _ _ _
   | exact ih1 _ _ _ _ _ _
   | exact ih2 _ _ _ _ _ _ _
   | exact ih3 _ _ _ _ _ _ _
   | exact ih4 _ _ _ _ _ _ _ _
   | exact ih5 _ _ _ _ _ _ _ _ _
   | exact ih6 _ _ _ _ _ _ _ _ _ _
   | exact ih7 _ _ _ _ _ _ _ _ _
   | exact ih8 _ _ _ _ _ _ _ _
   | exact ih9 _ _ _ _ _ _ _
   | exact ih10 _ _ _ _ _ _ _
   | exact ih11 _ _ _ _ _ _
   | exact impl_onlyPoints.mono _ _
   | exact impl_placesOf.mono _ _ _ _
   | exact LeO.none _
   | refine LeO.ite ?_ ?_
   | refine LeO.bind ?_ (fun _ => ?_)
set_option maxHeartbeats 8000000 in
set_option maxRecDepth 100000 in
theorem impl_SentenceCuts.calls (k : Nat) (a0 : ByteArray) (r : List Int) (w : World) (h : impl_SentenceCuts.f k a0 = some r) (hG : GT w) :
  Calls Tryd.prog 34 #[.string a0] w fun e w' => ∃ v0_ : Value, e = .returned (v0_) ∧ Kd.R (Kd.int .i64) 2 w' w.heap.size (fun _ => True) v0_ r ∧ Below w.heap.size w w' := by
 have HG := Aside0.mk hG
 clear hG
 have HB := Aside0.mk (Below.refl w.heap.size w)
 have H : ((impl_long.f a0).bind fun t277 => (if t277 = true then (some ([] : List Int)) else ((W_impl_read.f a0).bind fun t278 => ((impl_onlyPoints.f k t278).bind fun t281 => ((impl_charCuts.f t281).bind fun t284 => (if 0 ≤ (wrap64 ((t281.length : Int) + 1)) then (if (wrap64 ((t281.length : Int) + 1) : Int).toNat ≤ 281474976710656 then (impl_SentenceCuts.l0 k a0 t278 t281 t284 (List.replicate (wrap64 ((t281.length : Int) + 1) : Int).toNat false) t281 (t281.length : Int) 0) else (none)) else (none))))))) = some r := h
 clear h
 replace H := Option.bind_eq_some_iff.mp H
 obtain ⟨t277, A20, H⟩ := H
 try dsimp only at H
 have A2 := Aside0.mk A20
 clear A20
 by_cases c3 : t277 = true
 ·subst c3
  have H1 : (some ([] : List Int)) = some r := by rw [if_pos rfl] at H; exact H
  clear H; have H := H1; clear H1; obtain rfl := Option.some.inj H
  go_enter Tryd.func34, Tryd.ntmps34
  go_wp2_with (first | ((with_reducible refine gate_callee (f := 86) rfl ?_); refine goesL_ (some 19) rfl rfl Tryd.func86 (by kernel_rfl) rfl #[.string a0] rfl (by (try simp only [List.map_toArray, List.map_cons, List.map_nil]); first | done | rfl) ?_; (with_reducible refine (impl_long.calls a0 true _ A2.out).mono ?_); rintro e w' ⟨rfl, ⟨nd, rfl⟩⟩; refine ⟨_, rfl, ?_⟩))
  go_ret
  exact ⟨_, by first | rfl | (simp [errW_none, errW_some] <;> rfl) | (simp [*, errW_none, errW_some] <;> rfl), by first | exact Kd.R_nil _ _ _ _ _ | exact Kd.N_nil _ _ _ _ _ | exact Kd.V_nil _ _ _ _ _ | exact Kd.Q_nil _ _ _ _ _ | exact Kd.S_nil _ _ _ _ _, belowA⟩
 replace c3 := Bool.eq_false_iff.mpr c3
 subst c3
 have H1 : ((W_impl_read.f a0).bind fun t278 => ((impl_onlyPoints.f k t278).bind fun t281 => ((impl_charCuts.f t281).bind fun t284 => (if 0 ≤ (wrap64 ((t281.length : Int) + 1)) then (if (wrap64 ((t281.length : Int) + 1) : Int).toNat ≤ 281474976710656 then (impl_SentenceCuts.l0 k a0 t278 t281 t284 (List.replicate (wrap64 ((t281.length : Int) + 1) : Int).toNat false) t281 (t281.length : Int) 0) else (none)) else (none))))) = some r := by rw [if_neg (show ¬ (false = true) by decide)] at H; exact H
 clear H
 have H := H1
 clear H1
 replace H := Option.bind_eq_some_iff.mp H
 obtain ⟨t278, A40, H⟩ := H
 try dsimp only at H
 have A4 := Aside0.mk A40
 clear A40
 replace H := Option.bind_eq_some_iff.mp H
 obtain ⟨t281, A50, H⟩ := H
 try dsimp only at H
 have A5 := Aside0.mk A50
 clear A50
 replace H := Option.bind_eq_some_iff.mp H
 obtain ⟨t284, A60, H⟩ := H
 try dsimp only at H
 have A6 := Aside0.mk A60
 clear A60
 obtain ⟨ji7, hji7⟩ : ∃ j_ : Int, (wrap64 ((t281.length : Int) + 1)) = j_ := ⟨_, rfl⟩
 replace H : (if 0 ≤ (ji7) then (if (ji7 : Int).toNat ≤ 281474976710656 then (impl_SentenceCuts.l0 k a0 t278 t281 t284 (List.replicate (ji7 : Int).toNat false) t281 (t281.length : Int) 0) else (none)) else (none)) = some r := by first | (rw [hji7] at H; exact H) | (simp only [hji7] at H ⊢; exact H)
 (try rw [hji7] at A2)
 (try rw [hji7] at A4)
 (try rw [hji7] at A5)
 (try rw [hji7] at A6)
 have hji7w : (IntKind.i64.wrap ((t281.length : Int) + 1)) = ji7 := (i64_w _).trans hji7
 by_cases c8 : 0 ≤ (ji7)
 ·rw [if_pos c8] at H
  have c8b0 := eq_true c8; have c8b1 : decide (0 ≤ (ji7)) = true := decide_eq_true c8; clear c8
  by_cases c9 : (ji7 : Int).toNat ≤ 281474976710656
  ·rw [if_pos c9] at H
   have c9b0 := eq_true c9; have c9b1 : decide ((ji7 : Int).toNat ≤ 281474976710656) = true := decide_eq_true c9; clear c9; obtain ⟨y287, hy287⟩ : ∃ y_ : List Bool, y_ = (List.replicate (ji7 : Int).toNat false) := ⟨_, rfl⟩
   replace H : (impl_SentenceCuts.l0 k a0 t278 t281 t284 y287 t281 (t281.length : Int) 0) = some r := by first | (rw [hy287]; with_reducible exact H) | (have H2_ := (Option.bind_some _ _).symm.trans H; rw [hy287]; with_reducible exact H2_) | (have H2_ := (Option.bind_some _ _).symm.trans H; with_reducible exact H2_) | with_reducible exact H | (rw [hy287]; exact H) | exact H
   have Ny287 := Aside0.mk hy287; clear hy287; have H' := Aside0.mk H; clear H
   go_enter Tryd.func34, Tryd.ntmps34
   go_wp2_with (first | ((with_reducible refine gate_callee (f := 86) rfl ?_); refine goesL_ (some 19) rfl rfl Tryd.func86 (by kernel_rfl) rfl #[.string a0] rfl (by (try simp only [List.map_toArray, List.map_cons, List.map_nil]); first | done | rfl) ?_; (with_reducible refine (impl_long.calls a0 false _ A2.out).mono ?_); rintro e w' ⟨rfl, ⟨nd, rfl⟩⟩; refine ⟨_, rfl, ?_⟩) | ((with_reducible refine gate_callee (f := 113) rfl ?_); refine goesL_ (some 21) rfl rfl Tryd.func113 (by kernel_rfl) rfl #[.string a0] rfl (by (try simp only [List.map_toArray, List.map_cons, List.map_nil]); first | done | rfl) ?_; (with_reducible refine (W_impl_read.calls a0 t278 _ A4.out (by first | exact HG.out | exact GT.below HG.out (by first | exact HB.out | (repeat (first | (with_reducible first | exact HB.out | apply below_alloc | apply pw_below_drewN | apply below_drew1 | refine below_set ?_ (Aside0.out (by assumption))) | exact HB.out))) | exact GT.below HG.out (HB.out))).mono ?_); rintro e w10 ⟨v279, rfl, ho0, hb⟩; refine ⟨_, rfl, ?_⟩; have n0_ := Aside0.mk (Kd.R_lower ho0 (below_size (belowA))); have n1_ := Aside0.mk (below_step (belowA) hb); clear HB; have HO280 := n0_; have HB := n1_; clear n0_ n1_; (try clear hb); (try clear hb2); (try clear hk); (try clear hi); (try clear ho0); obtain ⟨Ao11, co11, eo11⟩ := Kd.R_slice HO280.out; subst eo11) | ((with_reducible refine gate_callee (f := 114) rfl ?_); refine goesL_ (some 23) rfl rfl Tryd.func114 (by kernel_rfl) rfl #[.slice Ao11 t278.length co11] rfl (by (try simp only [List.map_toArray, List.map_cons, List.map_nil]); first | done | rfl) ?_; (with_reducible refine (impl_onlyPoints.calls k _ _ t278 t281 _ ?side1 ?side2 A5.out).mono ?_); (case side1 => repeat (first | exact (Kd.R_reads' HO280.out).2.2 | (with_reducible refine Kd.C_alloc ?_ _) | (with_reducible refine Kd.C_drewN ?_ _) | (with_reducible refine Kd.C_drew ?_))); (case side2 => exact (Kd.R_reads' HO280.out).2.1); rintro e w12 ⟨v282, rfl, ho0, hb⟩; refine ⟨_, rfl, ?_⟩; have n0_ := Aside0.mk (Kd.R_below (by (with_reducible repeat (first | apply Kd.R_alloc | apply Kd.R_drewN | apply Kd.R_drew)); exact HO280.out) hb); have n1_ := Aside0.mk (Kd.R_lower ho0 (below_size (belowA))); have n2_ := Aside0.mk (below_step (belowA) hb); clear HO280; clear HB; have HO280 := n0_; have HO283 := n1_; have HB := n2_; clear n0_ n1_ n2_; (try clear hb); (try clear hb2); (try clear hk); (try clear hi); (try clear ho0); obtain ⟨Ao13, co13, eo13⟩ := Kd.R_slice HO283.out; subst eo13) | ((with_reducible refine gate_callee (f := 115) rfl ?_); refine goesL_ (some 25) rfl rfl Tryd.func115 (by kernel_rfl) rfl #[.slice Ao13 t281.length co13] rfl (by (try simp only [List.map_toArray, List.map_cons, List.map_nil]); first | done | rfl) ?_; (with_reducible refine (impl_charCuts.calls _ _ t281 t284 _ ?side1 ?side2 A6.out).mono ?_); (case side1 => repeat (first | exact (Kd.R_reads' HO283.out).2.2 | (with_reducible refine Kd.C_alloc ?_ _) | (with_reducible refine Kd.C_drewN ?_ _) | (with_reducible refine Kd.C_drew ?_))); (case side2 => exact (Kd.R_reads' HO283.out).2.1); rintro e w14 ⟨v285, rfl, ho0, hb⟩; refine ⟨_, rfl, ?_⟩; have n0_ := Aside0.mk (Kd.R_below (by (with_reducible repeat (first | apply Kd.R_alloc | apply Kd.R_drewN | apply Kd.R_drew)); exact HO280.out) hb); have n1_ := Aside0.mk (Kd.R_below (by (with_reducible repeat (first | apply Kd.R_alloc | apply Kd.R_drewN | apply Kd.R_drew)); exact HO283.out) hb); have n2_ := Aside0.mk (Kd.R_lower ho0 (below_size (belowA))); have n3_ := Aside0.mk (below_step (belowA) hb); clear HO280; clear HO283; clear HB; have HO280 := n0_; have HO283 := n1_; have HO286 := n2_; have HB := n3_; clear n0_ n1_ n2_ n3_; (try clear hb); (try clear hb2); (try clear hk); (try clear hi); (try clear ho0)) | ((with_reducible refine gate_dst (N := 29) rfl ?_); (try (refine gate_guard (by rfl) ?_; dsimp only)); refine Kd.R_make Kd.bool _ 4 rfl (N := 29) rfl 90 _ _ rfl ji7 rfl rfl Tryd.underlying90 (.bool false) 1 info4 rfl (by decide) (by omega) false (ok := fun _ => True) (okp := fun _ => True) rfl (fun _ hk => hk) trivial (of_decide_eq_true (by first | (with_reducible assumption) | assumption)) (Nat.le_trans (Nat.mul_le_mul_right _ (of_decide_eq_true (by first | (with_reducible assumption) | assumption) : ji7.toNat ≤ 281474976710656)) (by omega)) (Below.refl _ _) (Nat.le_refl _) ?_; intro v288 w15 ho16 hb hg_ hnew_; clear hg_ hnew_; (first | rw [← Ny287.out] at ho16 | (simp only [Int.reduceToNat] at ho16; rw [← Ny287.out] at ho16)); have n0_ := Aside0.mk (Kd.R_below (by (with_reducible repeat (first | apply Kd.R_alloc | apply Kd.R_drewN | apply Kd.R_drew)); exact HO280.out) hb); have n1_ := Aside0.mk (Kd.R_below (by (with_reducible repeat (first | apply Kd.R_alloc | apply Kd.R_drewN | apply Kd.R_drew)); exact HO283.out) hb); have n2_ := Aside0.mk (Kd.R_elder' (by (with_reducible repeat (first | apply Kd.R_alloc | apply Kd.R_drewN | apply Kd.R_drew)); exact HO286.out) (Kd.R_base ho16) hb); have n3_ := Aside0.mk (Kd.R_lower (Kd.R_new' ho16 (Kd.R_lt (by (with_reducible repeat (first | apply Kd.R_alloc | apply Kd.R_drewN | apply Kd.R_drew)); exact HO286.out))) (below_size (belowA))); have n4_ := Aside0.mk (below_step (belowA) hb); clear HO280; clear HO283; clear HO286; clear HB; have HO280 := n0_; have HO283 := n1_; have HO286 := n2_; have HO289 := n3_; have HB := n4_; clear n0_ n1_ n2_ n3_ n4_; clear hb ho16))
   go_loopg [32] k (fun kq v32 w' => ∃ (x6_1 : List Bool) (x32_1 : Int), v32 = .int .i64 x32_1 ∧ Aside0 (impl_SentenceCuts.l0 kq a0 t278 t281 t284 x6_1 t281 (t281.length : Int) x32_1 = some r) ∧ Aside0 (kq ≤ k) ∧ Aside0 (Kd.R k121 121 w' w.heap.size (fun _ => True) (.slice Ao11 t278.length co11) t278) ∧ Aside0 (Kd.R (Kd.int .i64) 2 w' w.heap.size (fun _ => True) (.slice Ao13 t281.length co13) t281) ∧ Aside0 (Kd.R Kd.bool 4 w' w.heap.size (fun k_ => some k_ ≠ (v288 : Value).ownBlock) v285 t284) ∧ Aside0 (Kd.R Kd.bool 4 w' w.heap.size (fun k_ => some k_ ≠ (v285 : Value).ownBlock) v288 x6_1) ∧ Aside0 (Kd.R (Kd.int .i64) 2 w' w.heap.size (fun _ => True) (.slice Ao13 t281.length co13) t281) ∧ Aside0 (Below w.heap.size w w'))
   case atStart => exact ⟨(y287), (0), (by first | rfl | (simp; done) | (simp [*]; done)), H', ⟨Nat.le_refl _⟩, ⟨by (with_reducible repeat (first | apply Kd.R_alloc | apply Kd.R_drewN | apply Kd.R_drew)); exact HO280.out⟩, ⟨by (with_reducible repeat (first | apply Kd.R_alloc | apply Kd.R_drewN | apply Kd.R_drew)); exact HO283.out⟩, ⟨by (with_reducible repeat (first | apply Kd.R_alloc | apply Kd.R_drewN | apply Kd.R_drew)); exact Kd.R_mono HO286.out (fun _ hk => hk.2)⟩, ⟨by (with_reducible repeat (first | apply Kd.R_alloc | apply Kd.R_drewN | apply Kd.R_drew)); exact Kd.R_mono HO289.out (fun _ hk => hk.2)⟩, ⟨by (with_reducible repeat (first | apply Kd.R_alloc | apply Kd.R_drewN | apply Kd.R_drew)); exact HO283.out⟩, ⟨belowA⟩⟩
   case round =>
    clear H'
    try clear c1; try clear p2; try clear c3; try clear p6; try clear c8; try clear c8b0; try clear c8b1; try clear c9; try clear c9b0; try clear c9b1; try clear c11
    obtain ⟨x6_1, x32_1, rfl, HA, HK1, HO_3, HO_4, HO_5, HO_6, HO_30, HB⟩ := hrel
    cases gk with
    | zero => exact absurd HA.out (by simp [impl_SentenceCuts.l0])
    | succ k1 =>
     have H := HA.out; clear HA; simp only [impl_SentenceCuts.l0] at H
     by_cases c17 : x32_1 < (t281.length : Int)
     ·rw [if_pos c17] at H
      have c17b0 : decide (x32_1 < (t281.length : Int)) = true := decide_eq_true c17; clear c17
      by_cases c18 : 0 ≤ x32_1
      ·rw [if_pos c18] at H
       have c18b0 : decide (0 ≤ x32_1) = true := decide_eq_true c18; clear c18
       by_cases c19 : x32_1 < (t281.length : Int)
       ·rw [if_pos c19] at H
        have c19b0 : decide (x32_1 < (t281.length : Int)) = true := decide_eq_true c19; clear c19
        by_cases c20 : (rd t281 x32_1) = 10
        ·rw [if_pos c20] at H
         have c20b0 : ((rd t281 x32_1) == 10) = true := beq_iff_eq.mpr c20; have c20b1 : ((rd t281 x32_1) != 10) = false := bne_eq_false_iff_eq.mpr c20; clear c20; obtain ⟨ji21, hji21⟩ : ∃ j_ : Int, (wrap64 (x32_1 + 1)) = j_ := ⟨_, rfl⟩
         replace H : (if 0 ≤ (ji21) then (if (ji21) < (x6_1.length : Int) then (impl_SentenceCuts.l0 k1 a0 t278 t281 t284 (x6_1.set ((ji21) : Int).toNat true) t281 (t281.length : Int) ji21) else (none)) else (none)) = some r := by first | (rw [hji21] at H; exact H) | (simp only [hji21] at H ⊢; exact H)
         have hji21w : (IntKind.i64.wrap (x32_1 + 1)) = ji21 := (i64_w _).trans hji21
         by_cases c22 : 0 ≤ (ji21)
         ·rw [if_pos c22] at H
          have c22b0 : decide (0 ≤ (ji21)) = true := decide_eq_true c22; clear c22
          by_cases c23 : (ji21) < (x6_1.length : Int)
          ·rw [if_pos c23] at H
           have c23b0 : decide ((ji21) < (x6_1.length : Int)) = true := decide_eq_true c23; clear c23; obtain ⟨y291, hy291⟩ : ∃ y_ : List Bool, y_ = (x6_1.set ((ji21) : Int).toNat true) := ⟨_, rfl⟩
           replace H : (impl_SentenceCuts.l0 k1 a0 t278 t281 t284 y291 t281 (t281.length : Int) ji21) = some r := by first | (rw [hy291]; with_reducible exact H) | (have H2_ := (Option.bind_some _ _).symm.trans H; rw [hy291]; with_reducible exact H2_) | (have H2_ := (Option.bind_some _ _).symm.trans H; with_reducible exact H2_) | with_reducible exact H | (rw [hy291]; exact H) | exact H
           have Ny291 := Aside0.mk hy291; clear hy291; have H' := Aside0.mk H; clear H
           have p290 : 0 ≤ (x32_1 : Int) := of_decide_eq_true (by first | (with_reducible assumption) | assumption)
           have q290 : x32_1 < (t281.length : Int) := of_decide_eq_true (by first | (with_reducible assumption) | assumption)
           obtain ⟨ad290, e290, hx290_0⟩ := Kd.at_int (Kd.R_reads' HO_30.out).2.2 x32_1 p290 q290; cases e290; replace p290 := eq_true p290; replace q290 := eq_true q290
           have p24 : 0 ≤ ((ji21) : Int) := of_decide_eq_true (by first | (with_reducible assumption) | assumption)
           have q24 : ((ji21) : Int) < ((x6_1.length : Int) : Int) := of_decide_eq_true (by first | (with_reducible assumption) | assumption)
           obtain ⟨go24, co24, eo24, gb24, gl24, cl24, HG24⟩ := Kd.R_form HO_6.out (by omega)
           (first | cases eo24 | (injection eo24 with ea_ en_ ec_; (first | subst ea_ | (injection ea_ with ea_; subst ea_)); subst ec_; clear en_))
           have GB24 := Aside0.mk gb24; have GG24 := Aside0.mk HG24; clear gb24 gl24 HG24; obtain ⟨hx24_0, hf24_0⟩ := Kd.R_celln false HO_6.out ((ji21) : Int) p24 q24; replace p24 := eq_true p24; replace q24 := eq_true q24; have HP25 := Kd.R_putg HO_6.out ((ji21) : Int) true
           go_wp2_with (first | ((with_reducible refine gate_store (t := 4) (p := 61) rfl ?_); refine store_event (t := 4) (p := 61) (v := ?vo_w26) (w1 := (wr.setCell ⟨go24, ((ji21) : Int).toNat, none⟩ (.bool true))) ?hg ?ho ?hn ?hr ?_; (case ho => rfl); (case hg => rfl); (case hn => rfl); (case hr => first | (go_simp; done) | (go_simp; rfl)); intro w26 hw; have hg : wr.grownBy w26 (some go24) := (by rw [hw]; exact HP25.2); have hp_ : Kd.R Kd.bool 4 w26 w.heap.size (fun k_ => some k_ ≠ (v285 : Value).ownBlock) (.slice (some ⟨go24, 0, none⟩) x6_1.length co24) y291 := (by rw [hw, Ny291.out]; exact HP25.1); clear HP25; have n0_ := Aside0.mk (Kd.R_over' (v := (.slice (some ⟨go24, 0, none⟩) x6_1.length co24)) (by (with_reducible repeat (first | apply Kd.R_alloc | apply Kd.R_drewN | apply Kd.R_drew)); exact HO_3.out) (Kd.R_typed HO_6.out) (by decide) hg); have n1_ := Aside0.mk (Kd.R_over' (v := (.slice (some ⟨go24, 0, none⟩) x6_1.length co24)) (by (with_reducible repeat (first | apply Kd.R_alloc | apply Kd.R_drewN | apply Kd.R_drew)); exact HO_4.out) (Kd.R_typed HO_6.out) (by decide) hg); have n2_ := Aside0.mk (Kd.R_after (v := (.slice (some ⟨go24, 0, none⟩) x6_1.length co24)) (v1 := (.slice (some ⟨go24, 0, none⟩) x6_1.length co24)) (ok := (fun _ => True)) (by (with_reducible repeat (first | apply Kd.R_alloc | apply Kd.R_drewN | apply Kd.R_drew)); exact Kd.R_mono HO_5.out (fun _ hk => ⟨trivial, hk⟩)) hg (.inl rfl)); have n3_ := Aside0.mk (hp_); have n4_ := Aside0.mk (Kd.R_over' (v := (.slice (some ⟨go24, 0, none⟩) x6_1.length co24)) (by (with_reducible repeat (first | apply Kd.R_alloc | apply Kd.R_drewN | apply Kd.R_drew)); exact HO_30.out) (Kd.R_typed HO_6.out) (by decide) hg); have n5_ := Aside0.mk ((by rw [hw]; exact below_set (HB.out) GB24.out : Below w.heap.size w w26)); clear HO_3; clear HO_4; clear HO_5; clear HO_6; clear HO_30; clear HB; have HO_3 := n0_; have HO_4 := n1_; have HO_5 := n2_; have HO_6 := n3_; have HO_30 := n4_; have HB := n5_; clear n0_ n1_ n2_ n3_ n4_ n5_; clear hg hw hp_))
           go_roundg k1
           case measure => have := HK1.out; omega
           case rel => exact ⟨(y291), (ji21), (by first | rfl | (simp; done) | (simp only [← hji21] <;> (first | rfl | simp)) | (simp [*]; done)), H', ⟨by have := HK1.out; omega⟩, ⟨by (with_reducible repeat (first | apply Kd.R_alloc | apply Kd.R_drewN | apply Kd.R_drew)); exact HO_3.out⟩, ⟨by (with_reducible repeat (first | apply Kd.R_alloc | apply Kd.R_drewN | apply Kd.R_drew)); exact HO_4.out⟩, ⟨by (with_reducible repeat (first | apply Kd.R_alloc | apply Kd.R_drewN | apply Kd.R_drew)); exact Kd.R_mono HO_5.out (fun _ hk => hk.2)⟩, ⟨by (with_reducible repeat (first | apply Kd.R_alloc | apply Kd.R_drewN | apply Kd.R_drew)); exact HO_6.out⟩, ⟨by (with_reducible repeat (first | apply Kd.R_alloc | apply Kd.R_drewN | apply Kd.R_drew)); exact HO_30.out⟩, ⟨belowA⟩⟩
          rw [if_neg c23] at H
          exact absurd H (by simp)
         rw [if_neg c22] at H
         exact absurd H (by simp)
        rw [if_neg c20] at H; have c20b0 : ((rd t281 x32_1) == 10) = false := beq_eq_false_iff_ne.mpr c20; have c20b1 : ((rd t281 x32_1) != 10) = true := bne_iff_ne.mpr c20
        by_cases c27 : (rd t281 x32_1) = 13
        ·rw [if_pos c27] at H
         have c27b0 : ((rd t281 x32_1) == 13) = true := beq_iff_eq.mpr c27; have c27b1 : ((rd t281 x32_1) != 13) = false := bne_eq_false_iff_eq.mpr c27; clear c27
         by_cases c28 : (wrap64 (x32_1 + 1)) = (t281.length : Int)
         ·rw [if_pos c28] at H
          have c28b0 : ((wrap64 (x32_1 + 1)) == (t281.length : Int)) = true := beq_iff_eq.mpr c28; have c28b1 : ((wrap64 (x32_1 + 1)) != (t281.length : Int)) = false := bne_eq_false_iff_eq.mpr c28; clear c28; obtain ⟨ji29, hji29⟩ : ∃ j_ : Int, (wrap64 (x32_1 + 1)) = j_ := ⟨_, rfl⟩
          replace H : (if 0 ≤ (ji29) then (if (ji29) < (x6_1.length : Int) then (impl_SentenceCuts.l0 k1 a0 t278 t281 t284 (x6_1.set ((ji29) : Int).toNat true) t281 (t281.length : Int) ji29) else (none)) else (none)) = some r := by first | (rw [hji29] at H; exact H) | (simp only [hji29] at H ⊢; exact H)
          (try rw [hji29] at c28b0)
          (try rw [hji29] at c28b1)
          have hji29w : (IntKind.i64.wrap (x32_1 + 1)) = ji29 := (i64_w _).trans hji29
          by_cases c30 : 0 ≤ (ji29)
          ·rw [if_pos c30] at H
           have c30b0 : decide (0 ≤ (ji29)) = true := decide_eq_true c30; clear c30
           by_cases c31 : (ji29) < (x6_1.length : Int)
           ·rw [if_pos c31] at H
            have c31b0 : decide ((ji29) < (x6_1.length : Int)) = true := decide_eq_true c31; clear c31; obtain ⟨y292, hy292⟩ : ∃ y_ : List Bool, y_ = (x6_1.set ((ji29) : Int).toNat true) := ⟨_, rfl⟩
            replace H : (impl_SentenceCuts.l0 k1 a0 t278 t281 t284 y292 t281 (t281.length : Int) ji29) = some r := by first | (rw [hy292]; with_reducible exact H) | (have H2_ := (Option.bind_some _ _).symm.trans H; rw [hy292]; with_reducible exact H2_) | (have H2_ := (Option.bind_some _ _).symm.trans H; with_reducible exact H2_) | with_reducible exact H | (rw [hy292]; exact H) | exact H
            have Ny292 := Aside0.mk hy292; clear hy292; have H' := Aside0.mk H; clear H
            have p290 : 0 ≤ (x32_1 : Int) := of_decide_eq_true (by first | (with_reducible assumption) | assumption)
            have q290 : x32_1 < (t281.length : Int) := of_decide_eq_true (by first | (with_reducible assumption) | assumption)
            obtain ⟨ad290, e290, hx290_0⟩ := Kd.at_int (Kd.R_reads' HO_30.out).2.2 x32_1 p290 q290; cases e290; replace p290 := eq_true p290; replace q290 := eq_true q290
            have p32 : 0 ≤ ((ji29) : Int) := of_decide_eq_true (by first | (with_reducible assumption) | assumption)
            have q32 : ((ji29) : Int) < ((x6_1.length : Int) : Int) := of_decide_eq_true (by first | (with_reducible assumption) | assumption)
            obtain ⟨go32, co32, eo32, gb32, gl32, cl32, HG32⟩ := Kd.R_form HO_6.out (by omega)
            (first | cases eo32 | (injection eo32 with ea_ en_ ec_; (first | subst ea_ | (injection ea_ with ea_; subst ea_)); subst ec_; clear en_))
            have GB32 := Aside0.mk gb32; have GG32 := Aside0.mk HG32; clear gb32 gl32 HG32; obtain ⟨hx32_0, hf32_0⟩ := Kd.R_celln false HO_6.out ((ji29) : Int) p32 q32; replace p32 := eq_true p32; replace q32 := eq_true q32; have HP33 := Kd.R_putg HO_6.out ((ji29) : Int) true
            go_wp2_with (first | ((with_reducible refine gate_store (t := 4) (p := 61) rfl ?_); refine store_event (t := 4) (p := 61) (v := ?vo_w34) (w1 := (wr.setCell ⟨go32, ((ji29) : Int).toNat, none⟩ (.bool true))) ?hg ?ho ?hn ?hr ?_; (case ho => rfl); (case hg => rfl); (case hn => rfl); (case hr => first | (go_simp; done) | (go_simp; rfl)); intro w34 hw; have hg : wr.grownBy w34 (some go32) := (by rw [hw]; exact HP33.2); have hp_ : Kd.R Kd.bool 4 w34 w.heap.size (fun k_ => some k_ ≠ (v285 : Value).ownBlock) (.slice (some ⟨go32, 0, none⟩) x6_1.length co32) y292 := (by rw [hw, Ny292.out]; exact HP33.1); clear HP33; have n0_ := Aside0.mk (Kd.R_over' (v := (.slice (some ⟨go32, 0, none⟩) x6_1.length co32)) (by (with_reducible repeat (first | apply Kd.R_alloc | apply Kd.R_drewN | apply Kd.R_drew)); exact HO_3.out) (Kd.R_typed HO_6.out) (by decide) hg); have n1_ := Aside0.mk (Kd.R_over' (v := (.slice (some ⟨go32, 0, none⟩) x6_1.length co32)) (by (with_reducible repeat (first | apply Kd.R_alloc | apply Kd.R_drewN | apply Kd.R_drew)); exact HO_4.out) (Kd.R_typed HO_6.out) (by decide) hg); have n2_ := Aside0.mk (Kd.R_after (v := (.slice (some ⟨go32, 0, none⟩) x6_1.length co32)) (v1 := (.slice (some ⟨go32, 0, none⟩) x6_1.length co32)) (ok := (fun _ => True)) (by (with_reducible repeat (first | apply Kd.R_alloc | apply Kd.R_drewN | apply Kd.R_drew)); exact Kd.R_mono HO_5.out (fun _ hk => ⟨trivial, hk⟩)) hg (.inl rfl)); have n3_ := Aside0.mk (hp_); have n4_ := Aside0.mk (Kd.R_over' (v := (.slice (some ⟨go32, 0, none⟩) x6_1.length co32)) (by (with_reducible repeat (first | apply Kd.R_alloc | apply Kd.R_drewN | apply Kd.R_drew)); exact HO_30.out) (Kd.R_typed HO_6.out) (by decide) hg); have n5_ := Aside0.mk ((by rw [hw]; exact below_set (HB.out) GB32.out : Below w.heap.size w w34)); clear HO_3; clear HO_4; clear HO_5; clear HO_6; clear HO_30; clear HB; have HO_3 := n0_; have HO_4 := n1_; have HO_5 := n2_; have HO_6 := n3_; have HO_30 := n4_; have HB := n5_; clear n0_ n1_ n2_ n3_ n4_ n5_; clear hg hw hp_))
            go_roundg k1
            case measure => have := HK1.out; omega
            case rel => exact ⟨(y292), (ji29), (by first | rfl | (simp; done) | (simp only [← hji29] <;> (first | rfl | simp)) | (simp [*]; done)), H', ⟨by have := HK1.out; omega⟩, ⟨by (with_reducible repeat (first | apply Kd.R_alloc | apply Kd.R_drewN | apply Kd.R_drew)); exact HO_3.out⟩, ⟨by (with_reducible repeat (first | apply Kd.R_alloc | apply Kd.R_drewN | apply Kd.R_drew)); exact HO_4.out⟩, ⟨by (with_reducible repeat (first | apply Kd.R_alloc | apply Kd.R_drewN | apply Kd.R_drew)); exact Kd.R_mono HO_5.out (fun _ hk => hk.2)⟩, ⟨by (with_reducible repeat (first | apply Kd.R_alloc | apply Kd.R_drewN | apply Kd.R_drew)); exact HO_6.out⟩, ⟨by (with_reducible repeat (first | apply Kd.R_alloc | apply Kd.R_drewN | apply Kd.R_drew)); exact HO_30.out⟩, ⟨belowA⟩⟩
           rw [if_neg c31] at H
           exact absurd H (by simp)
          rw [if_neg c30] at H
          exact absurd H (by simp)
         rw [if_neg c28] at H; have c28b0 : ((wrap64 (x32_1 + 1)) == (t281.length : Int)) = false := beq_eq_false_iff_ne.mpr c28; have c28b1 : ((wrap64 (x32_1 + 1)) != (t281.length : Int)) = true := bne_iff_ne.mpr c28; obtain ⟨ji35, hji35⟩ : ∃ j_ : Int, (wrap64 (x32_1 + 1)) = j_ := ⟨_, rfl⟩
         replace H : (if 0 ≤ (ji35) then (if (ji35) < (t281.length : Int) then (if (rd t281 (ji35)) = 10 then (impl_SentenceCuts.l0 k1 a0 t278 t281 t284 x6_1 t281 (t281.length : Int) ji35) else (if (ji35) < (x6_1.length : Int) then (impl_SentenceCuts.l0 k1 a0 t278 t281 t284 (x6_1.set ((ji35) : Int).toNat true) t281 (t281.length : Int) ji35) else (none))) else (none)) else (none)) = some r := by first | (rw [hji35] at H; exact H) | (simp only [hji35] at H ⊢; exact H)
         (try rw [hji35] at c28b0)
         (try rw [hji35] at c28b1)
         have hji35w : (IntKind.i64.wrap (x32_1 + 1)) = ji35 := (i64_w _).trans hji35
         by_cases c36 : 0 ≤ (ji35)
         ·rw [if_pos c36] at H
          have c36b0 : decide (0 ≤ (ji35)) = true := decide_eq_true c36; clear c36
          by_cases c37 : (ji35) < (t281.length : Int)
          ·rw [if_pos c37] at H
           have c37b0 : decide ((ji35) < (t281.length : Int)) = true := decide_eq_true c37; clear c37
           by_cases c38 : (rd t281 (ji35)) = 10
           ·rw [if_pos c38] at H
            have c38b0 : ((rd t281 (ji35)) == 10) = true := beq_iff_eq.mpr c38; have c38b1 : ((rd t281 (ji35)) != 10) = false := bne_eq_false_iff_eq.mpr c38; clear c38; have H' := Aside0.mk H; clear H
            have p290 : 0 ≤ (x32_1 : Int) := of_decide_eq_true (by first | (with_reducible assumption) | assumption)
            have q290 : x32_1 < (t281.length : Int) := of_decide_eq_true (by first | (with_reducible assumption) | assumption)
            obtain ⟨ad290, e290, hx290_0⟩ := Kd.at_int (Kd.R_reads' HO_30.out).2.2 x32_1 p290 q290; cases e290; replace p290 := eq_true p290; replace q290 := eq_true q290
            have p293 : 0 ≤ ((ji35) : Int) := of_decide_eq_true (by first | (with_reducible assumption) | assumption)
            have q293 : (ji35) < (t281.length : Int) := of_decide_eq_true (by first | (with_reducible assumption) | assumption)
            obtain ⟨ad293, e293, hx293_0⟩ := Kd.at_int (Kd.R_reads' HO_4.out).2.2 (ji35) p293 q293
            obtain rfl : ad290 = ad293 := (by injection e293)
            replace p293 := eq_true p293; replace q293 := eq_true q293
            go_wp2
            go_roundg k1
            case measure => have := HK1.out; omega
            case rel => exact ⟨(x6_1), (ji35), (by first | rfl | (simp; done) | (simp only [← hji35] <;> (first | rfl | simp)) | (simp [*]; done)), H', ⟨by have := HK1.out; omega⟩, ⟨by (with_reducible repeat (first | apply Kd.R_alloc | apply Kd.R_drewN | apply Kd.R_drew)); exact HO_3.out⟩, ⟨by (with_reducible repeat (first | apply Kd.R_alloc | apply Kd.R_drewN | apply Kd.R_drew)); exact HO_4.out⟩, ⟨by (with_reducible repeat (first | apply Kd.R_alloc | apply Kd.R_drewN | apply Kd.R_drew)); exact HO_5.out⟩, ⟨by (with_reducible repeat (first | apply Kd.R_alloc | apply Kd.R_drewN | apply Kd.R_drew)); exact HO_6.out⟩, ⟨by (with_reducible repeat (first | apply Kd.R_alloc | apply Kd.R_drewN | apply Kd.R_drew)); exact HO_30.out⟩, ⟨belowA⟩⟩
           rw [if_neg c38] at H; have c38b0 : ((rd t281 (ji35)) == 10) = false := beq_eq_false_iff_ne.mpr c38; have c38b1 : ((rd t281 (ji35)) != 10) = true := bne_iff_ne.mpr c38
           by_cases c39 : (ji35) < (x6_1.length : Int)
           ·rw [if_pos c39] at H
            have c39b0 : decide ((ji35) < (x6_1.length : Int)) = true := decide_eq_true c39; clear c39; obtain ⟨y294, hy294⟩ : ∃ y_ : List Bool, y_ = (x6_1.set ((ji35) : Int).toNat true) := ⟨_, rfl⟩
            replace H : (impl_SentenceCuts.l0 k1 a0 t278 t281 t284 y294 t281 (t281.length : Int) ji35) = some r := by first | (rw [hy294]; with_reducible exact H) | (have H2_ := (Option.bind_some _ _).symm.trans H; rw [hy294]; with_reducible exact H2_) | (have H2_ := (Option.bind_some _ _).symm.trans H; with_reducible exact H2_) | with_reducible exact H | (rw [hy294]; exact H) | exact H
            have Ny294 := Aside0.mk hy294; clear hy294; have H' := Aside0.mk H; clear H
            have p290 : 0 ≤ (x32_1 : Int) := of_decide_eq_true (by first | (with_reducible assumption) | assumption)
            have q290 : x32_1 < (t281.length : Int) := of_decide_eq_true (by first | (with_reducible assumption) | assumption)
            obtain ⟨ad290, e290, hx290_0⟩ := Kd.at_int (Kd.R_reads' HO_30.out).2.2 x32_1 p290 q290; cases e290; replace p290 := eq_true p290; replace q290 := eq_true q290
            have p293 : 0 ≤ ((ji35) : Int) := of_decide_eq_true (by first | (with_reducible assumption) | assumption)
            have q293 : (ji35) < (t281.length : Int) := of_decide_eq_true (by first | (with_reducible assumption) | assumption)
            obtain ⟨ad293, e293, hx293_0⟩ := Kd.at_int (Kd.R_reads' HO_4.out).2.2 (ji35) p293 q293
            obtain rfl : ad290 = ad293 := (by injection e293)
            replace p293 := eq_true p293; replace q293 := eq_true q293
            have p40 : 0 ≤ ((ji35) : Int) := of_decide_eq_true (by first | (with_reducible assumption) | assumption)
            have q40 : ((ji35) : Int) < ((x6_1.length : Int) : Int) := of_decide_eq_true (by first | (with_reducible assumption) | assumption)
            obtain ⟨go40, co40, eo40, gb40, gl40, cl40, HG40⟩ := Kd.R_form HO_6.out (by omega)
            (first | cases eo40 | (injection eo40 with ea_ en_ ec_; (first | subst ea_ | (injection ea_ with ea_; subst ea_)); subst ec_; clear en_))
            have GB40 := Aside0.mk gb40; have GG40 := Aside0.mk HG40; clear gb40 gl40 HG40; obtain ⟨hx40_0, hf40_0⟩ := Kd.R_celln false HO_6.out ((ji35) : Int) p40 q40; replace p40 := eq_true p40; replace q40 := eq_true q40; have HP41 := Kd.R_putg HO_6.out ((ji35) : Int) true
            go_wp2_with (first | ((with_reducible refine gate_store (t := 4) (p := 61) rfl ?_); refine store_event (t := 4) (p := 61) (v := ?vo_w42) (w1 := (wr.setCell ⟨go40, ((ji35) : Int).toNat, none⟩ (.bool true))) ?hg ?ho ?hn ?hr ?_; (case ho => rfl); (case hg => rfl); (case hn => rfl); (case hr => first | (go_simp; done) | (go_simp; rfl)); intro w42 hw; have hg : wr.grownBy w42 (some go40) := (by rw [hw]; exact HP41.2); have hp_ : Kd.R Kd.bool 4 w42 w.heap.size (fun k_ => some k_ ≠ (v285 : Value).ownBlock) (.slice (some ⟨go40, 0, none⟩) x6_1.length co40) y294 := (by rw [hw, Ny294.out]; exact HP41.1); clear HP41; have n0_ := Aside0.mk (Kd.R_over' (v := (.slice (some ⟨go40, 0, none⟩) x6_1.length co40)) (by (with_reducible repeat (first | apply Kd.R_alloc | apply Kd.R_drewN | apply Kd.R_drew)); exact HO_3.out) (Kd.R_typed HO_6.out) (by decide) hg); have n1_ := Aside0.mk (Kd.R_over' (v := (.slice (some ⟨go40, 0, none⟩) x6_1.length co40)) (by (with_reducible repeat (first | apply Kd.R_alloc | apply Kd.R_drewN | apply Kd.R_drew)); exact HO_4.out) (Kd.R_typed HO_6.out) (by decide) hg); have n2_ := Aside0.mk (Kd.R_after (v := (.slice (some ⟨go40, 0, none⟩) x6_1.length co40)) (v1 := (.slice (some ⟨go40, 0, none⟩) x6_1.length co40)) (ok := (fun _ => True)) (by (with_reducible repeat (first | apply Kd.R_alloc | apply Kd.R_drewN | apply Kd.R_drew)); exact Kd.R_mono HO_5.out (fun _ hk => ⟨trivial, hk⟩)) hg (.inl rfl)); have n3_ := Aside0.mk (hp_); have n4_ := Aside0.mk (Kd.R_over' (v := (.slice (some ⟨go40, 0, none⟩) x6_1.length co40)) (by (with_reducible repeat (first | apply Kd.R_alloc | apply Kd.R_drewN | apply Kd.R_drew)); exact HO_30.out) (Kd.R_typed HO_6.out) (by decide) hg); have n5_ := Aside0.mk ((by rw [hw]; exact below_set (HB.out) GB40.out : Below w.heap.size w w42)); clear HO_3; clear HO_4; clear HO_5; clear HO_6; clear HO_30; clear HB; have HO_3 := n0_; have HO_4 := n1_; have HO_5 := n2_; have HO_6 := n3_; have HO_30 := n4_; have HB := n5_; clear n0_ n1_ n2_ n3_ n4_ n5_; clear hg hw hp_))
            go_roundg k1
            case measure => have := HK1.out; omega
            case rel => exact ⟨(y294), (ji35), (by first | rfl | (simp; done) | (simp only [← hji35] <;> (first | rfl | simp)) | (simp [*]; done)), H', ⟨by have := HK1.out; omega⟩, ⟨by (with_reducible repeat (first | apply Kd.R_alloc | apply Kd.R_drewN | apply Kd.R_drew)); exact HO_3.out⟩, ⟨by (with_reducible repeat (first | apply Kd.R_alloc | apply Kd.R_drewN | apply Kd.R_drew)); exact HO_4.out⟩, ⟨by (with_reducible repeat (first | apply Kd.R_alloc | apply Kd.R_drewN | apply Kd.R_drew)); exact Kd.R_mono HO_5.out (fun _ hk => hk.2)⟩, ⟨by (with_reducible repeat (first | apply Kd.R_alloc | apply Kd.R_drewN | apply Kd.R_drew)); exact HO_6.out⟩, ⟨by (with_reducible repeat (first | apply Kd.R_alloc | apply Kd.R_drewN | apply Kd.R_drew)); exact HO_30.out⟩, ⟨belowA⟩⟩
           rw [if_neg c39] at H
           exact absurd H (by simp)
          rw [if_neg c37] at H
          exact absurd H (by simp)
         rw [if_neg c36] at H
         exact absurd H (by simp)
        rw [if_neg c27] at H; have c27b0 : ((rd t281 x32_1) == 13) = false := beq_eq_false_iff_ne.mpr c27; have c27b1 : ((rd t281 x32_1) != 13) = true := bne_iff_ne.mpr c27; have H' := Aside0.mk H; clear H
        have p290 : 0 ≤ (x32_1 : Int) := of_decide_eq_true (by first | (with_reducible assumption) | assumption)
        have q290 : x32_1 < (t281.length : Int) := of_decide_eq_true (by first | (with_reducible assumption) | assumption)
        obtain ⟨ad290, e290, hx290_0⟩ := Kd.at_int (Kd.R_reads' HO_30.out).2.2 x32_1 p290 q290; cases e290; replace p290 := eq_true p290; replace q290 := eq_true q290
        go_wp2
        go_roundg k1
        case measure => have := HK1.out; omega
        case rel => exact ⟨(x6_1), (wrap64 (x32_1 + 1)), (by first | rfl | (simp; done) | (simp [*]; done)), H', ⟨by have := HK1.out; omega⟩, ⟨by (with_reducible repeat (first | apply Kd.R_alloc | apply Kd.R_drewN | apply Kd.R_drew)); exact HO_3.out⟩, ⟨by (with_reducible repeat (first | apply Kd.R_alloc | apply Kd.R_drewN | apply Kd.R_drew)); exact HO_4.out⟩, ⟨by (with_reducible repeat (first | apply Kd.R_alloc | apply Kd.R_drewN | apply Kd.R_drew)); exact HO_5.out⟩, ⟨by (with_reducible repeat (first | apply Kd.R_alloc | apply Kd.R_drewN | apply Kd.R_drew)); exact HO_6.out⟩, ⟨by (with_reducible repeat (first | apply Kd.R_alloc | apply Kd.R_drewN | apply Kd.R_drew)); exact HO_30.out⟩, ⟨belowA⟩⟩
       rw [if_neg c19] at H
       exact absurd H (by simp)
      rw [if_neg c18] at H
      exact absurd H (by simp)
     rw [if_neg c17] at H; have c17b0 : decide (x32_1 < (t281.length : Int)) = false := decide_eq_false c17; clear c17; have H' := Aside0.mk H; clear H
     go_wp2
     go_loopg [9] k1 (fun kq v9 w' => ∃ (x6_2 : List Bool) (x9_2 : Int), v9 = .int .i64 x9_2 ∧ Aside0 (impl_SentenceCuts.l1 kq a0 t278 t281 t284 x6_2 x9_2 = some r) ∧ Aside0 (kq ≤ k1) ∧ Aside0 (Kd.R k121 121 w' w.heap.size (fun _ => True) (.slice Ao11 t278.length co11) t278) ∧ Aside0 (Kd.R (Kd.int .i64) 2 w' w.heap.size (fun _ => True) (.slice Ao13 t281.length co13) t281) ∧ Aside0 (Kd.R Kd.bool 4 w' w.heap.size (fun k_ => some k_ ≠ (v288 : Value).ownBlock) v285 t284) ∧ Aside0 (Kd.R Kd.bool 4 w' w.heap.size (fun k_ => some k_ ≠ (v285 : Value).ownBlock) v288 x6_2) ∧ Aside0 (Below w.heap.size w w'))
     case atStart => exact ⟨(x6_1), (0), (by first | rfl | (simp; done) | (simp [*]; done)), H', ⟨Nat.le_refl _⟩, ⟨by (with_reducible repeat (first | apply Kd.R_alloc | apply Kd.R_drewN | apply Kd.R_drew)); exact HO_3.out⟩, ⟨by (with_reducible repeat (first | apply Kd.R_alloc | apply Kd.R_drewN | apply Kd.R_drew)); exact HO_4.out⟩, ⟨by (with_reducible repeat (first | apply Kd.R_alloc | apply Kd.R_drewN | apply Kd.R_drew)); exact HO_5.out⟩, ⟨by (with_reducible repeat (first | apply Kd.R_alloc | apply Kd.R_drewN | apply Kd.R_drew)); exact HO_6.out⟩, ⟨belowA⟩⟩
     case round =>
      clear H'
      try clear c1; try clear c2; try clear p2; try clear q2; try clear hx2; try clear hf2; try clear c3; try clear p3; try clear q3; try clear hx3; try clear hf3; try clear p4; try clear q4; try clear hx4; try clear hf4; try clear p6; try clear c8; try clear c8b0; try clear c8b1; try clear c9; try clear c9b0; try clear c9b1; try clear c11; try clear c17; try clear c17b0; try clear c18; try clear c18b0; try clear c19; try clear c19b0; try clear c20; try clear c20b0; try clear c20b1; try clear c22; try clear c22b0; try clear c23; try clear c23b0; try clear p24; try clear q24; try clear hx24; try clear hf24; try clear c27; try clear c27b0; try clear c27b1; try clear c28; try clear c28b0; try clear c28b1; try clear p29; try clear q29; try clear hx29; try clear c30; try clear c30b0; try clear c31; try clear c31b0; try clear p32; try clear q32; try clear hx32; try clear hf32; try clear c34; try clear c36; try clear c36b0; try clear c37; try clear c37b0; try clear c38; try clear c38b0; try clear c38b1; try clear c39; try clear c39b0; try clear p40; try clear q40; try clear hx40; try clear hf40; try clear hx24_0; try clear hx290_0; try clear hx293_0; try clear hx32_0; try clear hx40_0; try clear p2; try clear p24; try clear p290; try clear p293; try clear p32; try clear p40; try clear p6; try clear q24; try clear q290; try clear q293; try clear q32; try clear q40
      obtain ⟨x6_2, x9_2, rfl, HA, HK2, HO_3, HO_4, HO_5, HO_6, HB⟩ := hrel
      cases gk with
      | zero => exact absurd HA.out (by simp [impl_SentenceCuts.l1])
      | succ k2 =>
       have H := HA.out; clear HA; simp only [impl_SentenceCuts.l1] at H
       by_cases c43 : x9_2 < (t281.length : Int)
       ·rw [if_pos c43] at H
        have c43b0 : decide (x9_2 < (t281.length : Int)) = true := decide_eq_true c43; clear c43
        by_cases c44 : 0 ≤ x9_2
        ·rw [if_pos c44] at H
         have c44b0 : decide (0 ≤ x9_2) = true := decide_eq_true c44; clear c44; replace H := Option.bind_eq_some_iff.mp H; obtain ⟨t296, A450, H⟩ := H
         try dsimp only at H
         have A45 := Aside0.mk A450; clear A450
         by_cases c46 : t296 = true
         ·subst c46
          have H1 : (impl_SentenceCuts.l2 k2 a0 t278 t281 t284 x6_2 x9_2 true) = some r := by rw [if_pos rfl] at H; exact H
          clear H; have H := H1; clear H1; have HC47 := Aside0.mk H; clear H
          have p295 : 0 ≤ (x9_2 : Int) := of_decide_eq_true (by first | (with_reducible assumption) | assumption)
          have q295 : x9_2 < (t281.length : Int) := of_decide_eq_true (by first | (with_reducible assumption) | assumption)
          obtain ⟨ad295, e295, hx295_0⟩ := Kd.at_int (Kd.R_reads' HO_4.out).2.2 x9_2 p295 q295; cases e295; replace p295 := eq_true p295; replace q295 := eq_true q295
          go_upto_block 4 with (first | ((with_reducible refine gate_callee (f := 116) rfl ?_); refine goesL_ (some 71) rfl rfl Tryd.func116 (by kernel_rfl) rfl #[.int .i64 (rd t281 x9_2), .string (⟨#[46, 33, 63]⟩ : ByteArray)] rfl (by (try simp only [List.map_toArray, List.map_cons, List.map_nil]); first | done | rfl) ?_; (with_reducible refine (impl_one.calls (rd t281 x9_2) (⟨#[46, 33, 63]⟩ : ByteArray) true _ A45.out).mono ?_); rintro e w48 ⟨rfl, hb⟩; refine ⟨_, rfl, ?_⟩; have n0_ := Aside0.mk (Kd.R_below (by (with_reducible repeat (first | apply Kd.R_alloc | apply Kd.R_drewN | apply Kd.R_drew)); exact HO_3.out) hb); have n1_ := Aside0.mk (Kd.R_below (by (with_reducible repeat (first | apply Kd.R_alloc | apply Kd.R_drewN | apply Kd.R_drew)); exact HO_4.out) hb); have n2_ := Aside0.mk (Kd.R_below (by (with_reducible repeat (first | apply Kd.R_alloc | apply Kd.R_drewN | apply Kd.R_drew)); exact HO_5.out) hb); have n3_ := Aside0.mk (Kd.R_below (by (with_reducible repeat (first | apply Kd.R_alloc | apply Kd.R_drewN | apply Kd.R_drew)); exact HO_6.out) hb); have n4_ := Aside0.mk (below_step (belowA) hb); clear HO_3; clear HO_4; clear HO_5; clear HO_6; clear HB; have HO_3 := n0_; have HO_4 := n1_; have HO_5 := n2_; have HO_6 := n3_; have HB := n4_; clear n0_ n1_ n2_ n3_ n4_; (try clear hb); (try clear hb2); (try clear hk); (try clear hi)))
          (try simp only [Act.put, List.setIfInBounds_toArray, List.set_cons_zero, List.set_cons_succ])
          go_cut [10, 11] (fun v10 v11 wc => ∃ (kq : Nat) (x10_46 : Int) (x11_46 : Bool), v10 = .int .i64 x10_46 ∧ v11 = .bool x11_46 ∧ Aside0 (impl_SentenceCuts.j3 kq a0 t278 t281 t284 x6_2 x10_46 x11_46 = some r) ∧ Aside0 (kq ≤ k2) ∧ Aside0 (Kd.R k121 121 wc w.heap.size (fun _ => True) (.slice Ao11 t278.length co11) t278) ∧ Aside0 (Kd.R (Kd.int .i64) 2 wc w.heap.size (fun _ => True) (.slice (some ad295) t281.length co13) t281) ∧ Aside0 (Kd.R Kd.bool 4 wc w.heap.size (fun k_ => some k_ ≠ (v288 : Value).ownBlock) v285 t284) ∧ Aside0 (Kd.R Kd.bool 4 wc w.heap.size (fun k_ => some k_ ≠ (v285 : Value).ownBlock) v288 x6_2) ∧ Aside0 (Below w.heap.size w wc))
          case first =>
           have H := HC47.out; clear HC47; have H' := Aside0.mk H; clear H
           go_wp2
           go_loopg [10, 11] k2 (fun kq v10 v11 w' => ∃ (x10_3 : Int) (x11_3 : Bool), v10 = .int .i64 x10_3 ∧ v11 = .bool x11_3 ∧ Aside0 (impl_SentenceCuts.l2 kq a0 t278 t281 t284 x6_2 x10_3 x11_3 = some r) ∧ Aside0 (kq ≤ k2) ∧ Aside0 (Kd.R k121 121 w' w.heap.size (fun _ => True) (.slice Ao11 t278.length co11) t278) ∧ Aside0 (Kd.R (Kd.int .i64) 2 w' w.heap.size (fun _ => True) (.slice (some ad295) t281.length co13) t281) ∧ Aside0 (Kd.R Kd.bool 4 w' w.heap.size (fun k_ => some k_ ≠ (v288 : Value).ownBlock) v285 t284) ∧ Aside0 (Kd.R Kd.bool 4 w' w.heap.size (fun k_ => some k_ ≠ (v285 : Value).ownBlock) v288 x6_2) ∧ Aside0 (Below w.heap.size w w'))
           case atStart => exact ⟨(x9_2), (true), (by first | rfl | (simp; done) | (simp [*]; done)), (by first | rfl | (simp; done) | (simp [*]; done)), H', ⟨Nat.le_refl _⟩, ⟨by (with_reducible repeat (first | apply Kd.R_alloc | apply Kd.R_drewN | apply Kd.R_drew)); exact HO_3.out⟩, ⟨by (with_reducible repeat (first | apply Kd.R_alloc | apply Kd.R_drewN | apply Kd.R_drew)); exact HO_4.out⟩, ⟨by (with_reducible repeat (first | apply Kd.R_alloc | apply Kd.R_drewN | apply Kd.R_drew)); exact HO_5.out⟩, ⟨by (with_reducible repeat (first | apply Kd.R_alloc | apply Kd.R_drewN | apply Kd.R_drew)); exact HO_6.out⟩, ⟨belowA⟩⟩
           case round =>
            clear H'
            try clear c1; try clear c2; try clear p2; try clear q2; try clear hx2; try clear hf2; try clear c3; try clear p3; try clear q3; try clear hx3; try clear hf3; try clear c4; try clear p4; try clear q4; try clear hx4; try clear hf4; try clear p6; try clear c8; try clear c8b0; try clear c8b1; try clear c9; try clear c9b0; try clear c9b1; try clear c11; try clear c17; try clear c17b0; try clear c18; try clear c18b0; try clear c19; try clear c19b0; try clear c20; try clear c20b0; try clear c20b1; try clear c22; try clear c22b0; try clear c23; try clear c23b0; try clear p24; try clear q24; try clear hx24; try clear hf24; try clear c27; try clear c27b0; try clear c27b1; try clear c28; try clear c28b0; try clear c28b1; try clear p29; try clear q29; try clear hx29; try clear c30; try clear c30b0; try clear c31; try clear c31b0; try clear p32; try clear q32; try clear hx32; try clear hf32; try clear c34; try clear c36; try clear c36b0; try clear c37; try clear c37b0; try clear c38; try clear c38b0; try clear c38b1; try clear c39; try clear c39b0; try clear p40; try clear q40; try clear hx40; try clear hf40; try clear c43; try clear c43b0; try clear c44; try clear c44b0; try clear c46; try clear hx24_0; try clear hx290_0; try clear hx293_0; try clear hx295_0; try clear hx32_0; try clear hx40_0; try clear p2; try clear p24; try clear p29; try clear p290; try clear p293; try clear p295; try clear p3; try clear p32; try clear p4; try clear p40; try clear p6; try clear q2; try clear q24; try clear q29; try clear q290; try clear q293; try clear q295; try clear q3; try clear q32; try clear q4; try clear q40
            obtain ⟨x10_3, x11_3, rfl, rfl, HA, HK3, HO_3, HO_4, HO_5, HO_6, HB⟩ := hrel
            cases gk with
            | zero => exact absurd HA.out (by simp [impl_SentenceCuts.l2])
            | succ k3 =>
             have H := HA.out; clear HA; simp only [impl_SentenceCuts.l2] at H
             by_cases c49 : x10_3 < (t281.length : Int)
             ·rw [if_pos c49] at H
              have c49b0 : decide (x10_3 < (t281.length : Int)) = true := decide_eq_true c49; clear c49
              (first | rw [c49b0] | (simp only [i64_w, i32_w]; rw [c49b0]) | skip)
              by_cases c50 : 0 ≤ x10_3
              ·rw [if_pos c50] at H
               have c50b0 : decide (0 ≤ x10_3) = true := decide_eq_true c50; clear c50; replace H := Option.bind_eq_some_iff.mp H; obtain ⟨t298, A510, H⟩ := H
               try dsimp only at H
               have A51 := Aside0.mk A510; clear A510
               by_cases c52 : t298 = true
               ·subst c52
                have H1 : (if x11_3 = true then (impl_SentenceCuts.l2 k3 a0 t278 t281 t284 x6_2 (wrap64 (x10_3 + 1)) ((rd t281 x10_3) == 46)) else (impl_SentenceCuts.l2 k3 a0 t278 t281 t284 x6_2 (wrap64 (x10_3 + 1)) false)) = some r := by rw [if_pos rfl] at H; exact H
                clear H; have H := H1; clear H1
                by_cases c53 : x11_3 = true
                ·subst c53
                 have H1 : (impl_SentenceCuts.l2 k3 a0 t278 t281 t284 x6_2 (wrap64 (x10_3 + 1)) ((rd t281 x10_3) == 46)) = some r := by rw [if_pos rfl] at H; exact H
                 clear H; have H := H1; clear H1; have H' := Aside0.mk H; clear H
                 have p297 : 0 ≤ (x10_3 : Int) := of_decide_eq_true (by first | (with_reducible assumption) | assumption)
                 have q297 : x10_3 < (t281.length : Int) := of_decide_eq_true (by first | (with_reducible assumption) | assumption)
                 obtain ⟨ad297, e297, hx297_0⟩ := Kd.at_int (Kd.R_reads' HO_4.out).2.2 x10_3 p297 q297
                 obtain rfl : ad295 = ad297 := (by injection e297)
                 replace p297 := eq_true p297; replace q297 := eq_true q297
                 go_wp2_with (first | (go_at_call 116; (with_reducible refine (impl_one.calls (rd t281 x10_3) (⟨#[46, 33, 63]⟩ : ByteArray) true _ A51.out).mono ?_); rintro e w54 ⟨rfl, hb⟩; have n0_ := Aside0.mk (Kd.R_below (by (with_reducible repeat (first | apply Kd.R_alloc | apply Kd.R_drewN | apply Kd.R_drew)); exact HO_3.out) hb); have n1_ := Aside0.mk (Kd.R_below (by (with_reducible repeat (first | apply Kd.R_alloc | apply Kd.R_drewN | apply Kd.R_drew)); exact HO_4.out) hb); have n2_ := Aside0.mk (Kd.R_below (by (with_reducible repeat (first | apply Kd.R_alloc | apply Kd.R_drewN | apply Kd.R_drew)); exact HO_5.out) hb); have n3_ := Aside0.mk (Kd.R_below (by (with_reducible repeat (first | apply Kd.R_alloc | apply Kd.R_drewN | apply Kd.R_drew)); exact HO_6.out) hb); have n4_ := Aside0.mk (below_step (belowA) hb); clear HO_3; clear HO_4; clear HO_5; clear HO_6; clear HB; have HO_3 := n0_; have HO_4 := n1_; have HO_5 := n2_; have HO_6 := n3_; have HB := n4_; clear n0_ n1_ n2_ n3_ n4_; (try clear hb); (try clear hb2); (try clear hk); (try clear hi); have p299 : 0 ≤ (x10_3 : Int) := of_decide_eq_true (by first | (with_reducible assumption) | assumption); have q299 : x10_3 < (t281.length : Int) := of_decide_eq_true (by first | (with_reducible assumption) | assumption); obtain ⟨ad299, e299, hx299_0⟩ := Kd.at_int (Kd.R_reads' HO_4.out).2.2 x10_3 p299 q299; obtain rfl : ad295 = ad299 := (by injection e299); replace p299 := eq_true p299; replace q299 := eq_true q299))
                 go_roundg k3
                 case measure => have := HK1.out; have := HK2.out; have := HK3.out; omega
                 case rel => exact ⟨(wrap64 (x10_3 + 1)), (((rd t281 x10_3) == 46)), (by first | rfl | (simp; done) | (simp [*]; done)), (by first | rfl | (simp; done) | (simp [*]; done)), H', ⟨by have := HK1.out; have := HK2.out; have := HK3.out; omega⟩, ⟨by (with_reducible repeat (first | apply Kd.R_alloc | apply Kd.R_drewN | apply Kd.R_drew)); exact HO_3.out⟩, ⟨by (with_reducible repeat (first | apply Kd.R_alloc | apply Kd.R_drewN | apply Kd.R_drew)); exact HO_4.out⟩, ⟨by (with_reducible repeat (first | apply Kd.R_alloc | apply Kd.R_drewN | apply Kd.R_drew)); exact HO_5.out⟩, ⟨by (with_reducible repeat (first | apply Kd.R_alloc | apply Kd.R_drewN | apply Kd.R_drew)); exact HO_6.out⟩, ⟨belowA⟩⟩
                replace c53 := Bool.eq_false_iff.mpr c53; subst c53
                have H1 : (impl_SentenceCuts.l2 k3 a0 t278 t281 t284 x6_2 (wrap64 (x10_3 + 1)) false) = some r := by rw [if_neg (show ¬ (false = true) by decide)] at H; exact H
                clear H; have H := H1; clear H1; have H' := Aside0.mk H; clear H
                have p297 : 0 ≤ (x10_3 : Int) := of_decide_eq_true (by first | (with_reducible assumption) | assumption)
                have q297 : x10_3 < (t281.length : Int) := of_decide_eq_true (by first | (with_reducible assumption) | assumption)
                obtain ⟨ad297, e297, hx297_0⟩ := Kd.at_int (Kd.R_reads' HO_4.out).2.2 x10_3 p297 q297
                obtain rfl : ad295 = ad297 := (by injection e297)
                replace p297 := eq_true p297; replace q297 := eq_true q297
                go_wp2_with (first | (go_at_call 116; (with_reducible refine (impl_one.calls (rd t281 x10_3) (⟨#[46, 33, 63]⟩ : ByteArray) true _ A51.out).mono ?_); rintro e w55 ⟨rfl, hb⟩; have n0_ := Aside0.mk (Kd.R_below (by (with_reducible repeat (first | apply Kd.R_alloc | apply Kd.R_drewN | apply Kd.R_drew)); exact HO_3.out) hb); have n1_ := Aside0.mk (Kd.R_below (by (with_reducible repeat (first | apply Kd.R_alloc | apply Kd.R_drewN | apply Kd.R_drew)); exact HO_4.out) hb); have n2_ := Aside0.mk (Kd.R_below (by (with_reducible repeat (first | apply Kd.R_alloc | apply Kd.R_drewN | apply Kd.R_drew)); exact HO_5.out) hb); have n3_ := Aside0.mk (Kd.R_below (by (with_reducible repeat (first | apply Kd.R_alloc | apply Kd.R_drewN | apply Kd.R_drew)); exact HO_6.out) hb); have n4_ := Aside0.mk (below_step (belowA) hb); clear HO_3; clear HO_4; clear HO_5; clear HO_6; clear HB; have HO_3 := n0_; have HO_4 := n1_; have HO_5 := n2_; have HO_6 := n3_; have HB := n4_; clear n0_ n1_ n2_ n3_ n4_; (try clear hb); (try clear hb2); (try clear hk); (try clear hi)))
                go_roundg k3
                case measure => have := HK1.out; have := HK2.out; have := HK3.out; omega
                case rel => exact ⟨(wrap64 (x10_3 + 1)), (false), (by first | rfl | (simp; done) | (simp [*]; done)), (by first | rfl | (simp; done) | (simp [*]; done)), H', ⟨by have := HK1.out; have := HK2.out; have := HK3.out; omega⟩, ⟨by (with_reducible repeat (first | apply Kd.R_alloc | apply Kd.R_drewN | apply Kd.R_drew)); exact HO_3.out⟩, ⟨by (with_reducible repeat (first | apply Kd.R_alloc | apply Kd.R_drewN | apply Kd.R_drew)); exact HO_4.out⟩, ⟨by (with_reducible repeat (first | apply Kd.R_alloc | apply Kd.R_drewN | apply Kd.R_drew)); exact HO_5.out⟩, ⟨by (with_reducible repeat (first | apply Kd.R_alloc | apply Kd.R_drewN | apply Kd.R_drew)); exact HO_6.out⟩, ⟨belowA⟩⟩
               replace c52 := Bool.eq_false_iff.mpr c52; subst c52
               have H1 : (impl_SentenceCuts.j3 k3 a0 t278 t281 t284 x6_2 x10_3 x11_3) = some r := by rw [if_neg (show ¬ (false = true) by decide)] at H; exact H
               clear H; have H := H1; clear H1; have H' := Aside0.mk H; clear H
               have p297 : 0 ≤ (x10_3 : Int) := of_decide_eq_true (by first | (with_reducible assumption) | assumption)
               have q297 : x10_3 < (t281.length : Int) := of_decide_eq_true (by first | (with_reducible assumption) | assumption)
               obtain ⟨ad297, e297, hx297_0⟩ := Kd.at_int (Kd.R_reads' HO_4.out).2.2 x10_3 p297 q297
               obtain rfl : ad295 = ad297 := (by injection e297)
               replace p297 := eq_true p297; replace q297 := eq_true q297
               go_wp2_with (first | (go_at_call 116; (with_reducible refine (impl_one.calls (rd t281 x10_3) (⟨#[46, 33, 63]⟩ : ByteArray) false _ A51.out).mono ?_); rintro e w56 ⟨rfl, hb⟩; have n0_ := Aside0.mk (Kd.R_below (by (with_reducible repeat (first | apply Kd.R_alloc | apply Kd.R_drewN | apply Kd.R_drew)); exact HO_3.out) hb); have n1_ := Aside0.mk (Kd.R_below (by (with_reducible repeat (first | apply Kd.R_alloc | apply Kd.R_drewN | apply Kd.R_drew)); exact HO_4.out) hb); have n2_ := Aside0.mk (Kd.R_below (by (with_reducible repeat (first | apply Kd.R_alloc | apply Kd.R_drewN | apply Kd.R_drew)); exact HO_5.out) hb); have n3_ := Aside0.mk (Kd.R_below (by (with_reducible repeat (first | apply Kd.R_alloc | apply Kd.R_drewN | apply Kd.R_drew)); exact HO_6.out) hb); have n4_ := Aside0.mk (below_step (belowA) hb); clear HO_3; clear HO_4; clear HO_5; clear HO_6; clear HB; have HO_3 := n0_; have HO_4 := n1_; have HO_5 := n2_; have HO_6 := n3_; have HB := n4_; clear n0_ n1_ n2_ n3_ n4_; (try clear hb); (try clear hb2); (try clear hk); (try clear hi)))
               go_meet
               case rel => exact ⟨_, (x10_3), (x11_3), (by first | rfl | (simp; done) | (simp [*]; done)), (by first | rfl | (simp; done) | (simp [*]; done)), H', ⟨by have := HK1.out; have := HK2.out; have := HK3.out; first | omega | exact Nat.le_refl _⟩, ⟨by (with_reducible repeat (first | apply Kd.R_alloc | apply Kd.R_drewN | apply Kd.R_drew)); exact HO_3.out⟩, ⟨by (with_reducible repeat (first | apply Kd.R_alloc | apply Kd.R_drewN | apply Kd.R_drew)); exact HO_4.out⟩, ⟨by (with_reducible repeat (first | apply Kd.R_alloc | apply Kd.R_drewN | apply Kd.R_drew)); exact HO_5.out⟩, ⟨by (with_reducible repeat (first | apply Kd.R_alloc | apply Kd.R_drewN | apply Kd.R_drew)); exact HO_6.out⟩, ⟨belowA⟩⟩
              rw [if_neg c50] at H
              exact absurd H (by simp)
             rw [if_neg c49] at H; have c49b0 : decide (x10_3 < (t281.length : Int)) = false := decide_eq_false c49; clear c49
             (first | rw [c49b0] | (simp only [i64_w, i32_w]; rw [c49b0]) | skip)
             have H' := Aside0.mk H; clear H
             go_wp2
             go_meet
             case rel => exact ⟨_, (x10_3), (x11_3), (by first | rfl | (simp; done) | (simp [*]; done)), (by first | rfl | (simp; done) | (simp [*]; done)), H', ⟨by have := HK1.out; have := HK2.out; have := HK3.out; first | omega | exact Nat.le_refl _⟩, ⟨by (with_reducible repeat (first | apply Kd.R_alloc | apply Kd.R_drewN | apply Kd.R_drew)); exact HO_3.out⟩, ⟨by (with_reducible repeat (first | apply Kd.R_alloc | apply Kd.R_drewN | apply Kd.R_drew)); exact HO_4.out⟩, ⟨by (with_reducible repeat (first | apply Kd.R_alloc | apply Kd.R_drewN | apply Kd.R_drew)); exact HO_5.out⟩, ⟨by (with_reducible repeat (first | apply Kd.R_alloc | apply Kd.R_drewN | apply Kd.R_drew)); exact HO_6.out⟩, ⟨belowA⟩⟩
          case rest =>
           clear HC47
           try clear c1; try clear c2; try clear p2; try clear q2; try clear hx2; try clear hf2; try clear c3; try clear p3; try clear q3; try clear hx3; try clear hf3; try clear c4; try clear p4; try clear q4; try clear hx4; try clear hf4; try clear c5; try clear p6; try clear c8; try clear c8b0; try clear c8b1; try clear c9; try clear c9b0; try clear c9b1; try clear c11; try clear c17; try clear c17b0; try clear c18; try clear c18b0; try clear c19; try clear c19b0; try clear c20; try clear c20b0; try clear c20b1; try clear c22; try clear c22b0; try clear c23; try clear c23b0; try clear p24; try clear q24; try clear hx24; try clear hf24; try clear c27; try clear c27b0; try clear c27b1; try clear c28; try clear c28b0; try clear c28b1; try clear p29; try clear q29; try clear hx29; try clear c30; try clear c30b0; try clear c31; try clear c31b0; try clear p32; try clear q32; try clear hx32; try clear hf32; try clear c34; try clear c36; try clear c36b0; try clear c37; try clear c37b0; try clear c38; try clear c38b0; try clear c38b1; try clear c39; try clear c39b0; try clear p40; try clear q40; try clear hx40; try clear hf40; try clear c43; try clear c43b0; try clear c44; try clear c44b0; try clear c46; try clear c49; try clear c49b0; try clear c50; try clear c50b0; try clear c52; try clear c53; try clear hx24_0; try clear hx290_0; try clear hx293_0; try clear hx295_0; try clear hx297_0; try clear hx299_0; try clear hx32_0; try clear hx40_0; try clear p2; try clear p24; try clear p29; try clear p290; try clear p293; try clear p295; try clear p297; try clear p299; try clear p3; try clear p32; try clear p4; try clear p40; try clear p6; try clear q2; try clear q24; try clear q29; try clear q290; try clear q293; try clear q295; try clear q297; try clear q299; try clear q3; try clear q32; try clear q4; try clear q40
           obtain ⟨kq, x10_46, x11_46, rfl, rfl, HA, HJ46, HO_3, HO_4, HO_5, HO_6, HB⟩ := hcut
           cases kq with
           | zero => exact absurd HA.out (by simp [impl_SentenceCuts.j3])
           | succ kj46 =>
            have H := HA.out; clear HA; simp only [impl_SentenceCuts.j3] at H; have HC57 := Aside0.mk H; clear H
            go_upto_block 6 with (fail)
            go_cut [10] (fun v10 wc => ∃ (kq : Nat) (x10_56 : Int), v10 = .int .i64 x10_56 ∧ Aside0 (impl_SentenceCuts.j5 kq a0 t278 t281 t284 x6_2 x10_56 x11_46 = some r) ∧ Aside0 (kq ≤ kj46) ∧ Aside0 (Kd.R k121 121 wc w.heap.size (fun _ => True) (.slice Ao11 t278.length co11) t278) ∧ Aside0 (Kd.R (Kd.int .i64) 2 wc w.heap.size (fun _ => True) (.slice (some ad295) t281.length co13) t281) ∧ Aside0 (Kd.R Kd.bool 4 wc w.heap.size (fun k_ => some k_ ≠ (v288 : Value).ownBlock) v285 t284) ∧ Aside0 (Kd.R Kd.bool 4 wc w.heap.size (fun k_ => some k_ ≠ (v285 : Value).ownBlock) v288 x6_2) ∧ Aside0 (Below w.heap.size w wc))
            case first =>
             have H := HC57.out; clear HC57; have H' := Aside0.mk H; clear H
             go_wp2
             go_loopg [10] kj46 (fun kq v10 w' => ∃ (x10_4 : Int), v10 = .int .i64 x10_4 ∧ Aside0 (impl_SentenceCuts.l3 kq a0 t278 t281 t284 x6_2 x10_4 x11_46 = some r) ∧ Aside0 (kq ≤ kj46) ∧ Aside0 (Kd.R k121 121 w' w.heap.size (fun _ => True) (.slice Ao11 t278.length co11) t278) ∧ Aside0 (Kd.R (Kd.int .i64) 2 w' w.heap.size (fun _ => True) (.slice (some ad295) t281.length co13) t281) ∧ Aside0 (Kd.R Kd.bool 4 w' w.heap.size (fun k_ => some k_ ≠ (v288 : Value).ownBlock) v285 t284) ∧ Aside0 (Kd.R Kd.bool 4 w' w.heap.size (fun k_ => some k_ ≠ (v285 : Value).ownBlock) v288 x6_2) ∧ Aside0 (Below w.heap.size w w'))
             case atStart => exact ⟨(x10_46), (by first | rfl | (simp; done) | (simp [*]; done)), H', ⟨Nat.le_refl _⟩, ⟨by (with_reducible repeat (first | apply Kd.R_alloc | apply Kd.R_drewN | apply Kd.R_drew)); exact HO_3.out⟩, ⟨by (with_reducible repeat (first | apply Kd.R_alloc | apply Kd.R_drewN | apply Kd.R_drew)); exact HO_4.out⟩, ⟨by (with_reducible repeat (first | apply Kd.R_alloc | apply Kd.R_drewN | apply Kd.R_drew)); exact HO_5.out⟩, ⟨by (with_reducible repeat (first | apply Kd.R_alloc | apply Kd.R_drewN | apply Kd.R_drew)); exact HO_6.out⟩, ⟨belowA⟩⟩
             case round =>
              clear H'
              try clear c1; try clear c2; try clear p2; try clear q2; try clear hx2; try clear hf2; try clear c3; try clear p3; try clear q3; try clear hx3; try clear hf3; try clear c4; try clear p4; try clear q4; try clear hx4; try clear hf4; try clear c5; try clear p6; try clear c8; try clear c8b0; try clear c8b1; try clear c9; try clear c9b0; try clear c9b1; try clear c11; try clear c17; try clear c17b0; try clear c18; try clear c18b0; try clear c19; try clear c19b0; try clear c20; try clear c20b0; try clear c20b1; try clear c22; try clear c22b0; try clear c23; try clear c23b0; try clear p24; try clear q24; try clear hx24; try clear hf24; try clear c27; try clear c27b0; try clear c27b1; try clear c28; try clear c28b0; try clear c28b1; try clear p29; try clear q29; try clear hx29; try clear c30; try clear c30b0; try clear c31; try clear c31b0; try clear p32; try clear q32; try clear hx32; try clear hf32; try clear c34; try clear c36; try clear c36b0; try clear c37; try clear c37b0; try clear c38; try clear c38b0; try clear c38b1; try clear c39; try clear c39b0; try clear p40; try clear q40; try clear hx40; try clear hf40; try clear c43; try clear c43b0; try clear c44; try clear c44b0; try clear c46; try clear c49; try clear c49b0; try clear c50; try clear c50b0; try clear c52; try clear c53; try clear hx24_0; try clear hx290_0; try clear hx293_0; try clear hx295_0; try clear hx297_0; try clear hx299_0; try clear hx32_0; try clear hx40_0; try clear p2; try clear p24; try clear p29; try clear p290; try clear p293; try clear p295; try clear p297; try clear p299; try clear p3; try clear p32; try clear p4; try clear p40; try clear p6; try clear q2; try clear q24; try clear q29; try clear q290; try clear q293; try clear q295; try clear q297; try clear q299; try clear q3; try clear q32; try clear q4; try clear q40
              obtain ⟨x10_4, rfl, HA, HK4, HO_3, HO_4, HO_5, HO_6, HB⟩ := hrel
              cases gk with
              | zero => exact absurd HA.out (by simp [impl_SentenceCuts.l3])
              | succ k4 =>
               have H := HA.out; clear HA; simp only [impl_SentenceCuts.l3] at H
               by_cases c58 : x10_4 < (t281.length : Int)
               ·rw [if_pos c58] at H
                have c58b0 : decide (x10_4 < (t281.length : Int)) = true := decide_eq_true c58; clear c58
                (first | rw [c58b0] | (simp only [i64_w, i32_w]; rw [c58b0]) | skip)
                by_cases c59 : 0 ≤ x10_4
                ·rw [if_pos c59] at H
                 have c59b0 : decide (0 ≤ x10_4) = true := decide_eq_true c59; clear c59; replace H := Option.bind_eq_some_iff.mp H; obtain ⟨t301, A600, H⟩ := H
                 try dsimp only at H
                 have A60 := Aside0.mk A600; clear A600
                 by_cases c61 : t301 = true
                 ·subst c61
                  have H1 : (impl_SentenceCuts.l3 k4 a0 t278 t281 t284 x6_2 (wrap64 (x10_4 + 1)) x11_46) = some r := by rw [if_pos rfl] at H; exact H
                  clear H; have H := H1; clear H1; have H' := Aside0.mk H; clear H
                  have p300 : 0 ≤ (x10_4 : Int) := of_decide_eq_true (by first | (with_reducible assumption) | assumption)
                  have q300 : x10_4 < (t281.length : Int) := of_decide_eq_true (by first | (with_reducible assumption) | assumption)
                  obtain ⟨ad300, e300, hx300_0⟩ := Kd.at_int (Kd.R_reads' HO_4.out).2.2 x10_4 p300 q300
                  obtain rfl : ad295 = ad300 := (by injection e300)
                  replace p300 := eq_true p300; replace q300 := eq_true q300
                  go_wp2_with (first | (go_at_call 116; (with_reducible refine (impl_one.calls (rd t281 x10_4) (⟨#[41, 93, 125, 34, 39]⟩ : ByteArray) true _ A60.out).mono ?_); rintro e w62 ⟨rfl, hb⟩; have n0_ := Aside0.mk (Kd.R_below (by (with_reducible repeat (first | apply Kd.R_alloc | apply Kd.R_drewN | apply Kd.R_drew)); exact HO_3.out) hb); have n1_ := Aside0.mk (Kd.R_below (by (with_reducible repeat (first | apply Kd.R_alloc | apply Kd.R_drewN | apply Kd.R_drew)); exact HO_4.out) hb); have n2_ := Aside0.mk (Kd.R_below (by (with_reducible repeat (first | apply Kd.R_alloc | apply Kd.R_drewN | apply Kd.R_drew)); exact HO_5.out) hb); have n3_ := Aside0.mk (Kd.R_below (by (with_reducible repeat (first | apply Kd.R_alloc | apply Kd.R_drewN | apply Kd.R_drew)); exact HO_6.out) hb); have n4_ := Aside0.mk (below_step (belowA) hb); clear HO_3; clear HO_4; clear HO_5; clear HO_6; clear HB; have HO_3 := n0_; have HO_4 := n1_; have HO_5 := n2_; have HO_6 := n3_; have HB := n4_; clear n0_ n1_ n2_ n3_ n4_; (try clear hb); (try clear hb2); (try clear hk); (try clear hi)))
                  go_roundg k4
                  case measure => have := HK1.out; have := HK2.out; have := HJ46.out; have := HK4.out; omega
                  case rel => exact ⟨(wrap64 (x10_4 + 1)), (by first | rfl | (simp; done) | (simp [*]; done)), H', ⟨by have := HK1.out; have := HK2.out; have := HJ46.out; have := HK4.out; omega⟩, ⟨by (with_reducible repeat (first | apply Kd.R_alloc | apply Kd.R_drewN | apply Kd.R_drew)); exact HO_3.out⟩, ⟨by (with_reducible repeat (first | apply Kd.R_alloc | apply Kd.R_drewN | apply Kd.R_drew)); exact HO_4.out⟩, ⟨by (with_reducible repeat (first | apply Kd.R_alloc | apply Kd.R_drewN | apply Kd.R_drew)); exact HO_5.out⟩, ⟨by (with_reducible repeat (first | apply Kd.R_alloc | apply Kd.R_drewN | apply Kd.R_drew)); exact HO_6.out⟩, ⟨belowA⟩⟩
                 replace c61 := Bool.eq_false_iff.mpr c61; subst c61
                 have H1 : (impl_SentenceCuts.j5 k4 a0 t278 t281 t284 x6_2 x10_4 x11_46) = some r := by rw [if_neg (show ¬ (false = true) by decide)] at H; exact H
                 clear H; have H := H1; clear H1; have H' := Aside0.mk H; clear H
                 have p300 : 0 ≤ (x10_4 : Int) := of_decide_eq_true (by first | (with_reducible assumption) | assumption)
                 have q300 : x10_4 < (t281.length : Int) := of_decide_eq_true (by first | (with_reducible assumption) | assumption)
                 obtain ⟨ad300, e300, hx300_0⟩ := Kd.at_int (Kd.R_reads' HO_4.out).2.2 x10_4 p300 q300
                 obtain rfl : ad295 = ad300 := (by injection e300)
                 replace p300 := eq_true p300; replace q300 := eq_true q300
                 go_wp2_with (first | (go_at_call 116; (with_reducible refine (impl_one.calls (rd t281 x10_4) (⟨#[41, 93, 125, 34, 39]⟩ : ByteArray) false _ A60.out).mono ?_); rintro e w63 ⟨rfl, hb⟩; have n0_ := Aside0.mk (Kd.R_below (by (with_reducible repeat (first | apply Kd.R_alloc | apply Kd.R_drewN | apply Kd.R_drew)); exact HO_3.out) hb); have n1_ := Aside0.mk (Kd.R_below (by (with_reducible repeat (first | apply Kd.R_alloc | apply Kd.R_drewN | apply Kd.R_drew)); exact HO_4.out) hb); have n2_ := Aside0.mk (Kd.R_below (by (with_reducible repeat (first | apply Kd.R_alloc | apply Kd.R_drewN | apply Kd.R_drew)); exact HO_5.out) hb); have n3_ := Aside0.mk (Kd.R_below (by (with_reducible repeat (first | apply Kd.R_alloc | apply Kd.R_drewN | apply Kd.R_drew)); exact HO_6.out) hb); have n4_ := Aside0.mk (below_step (belowA) hb); clear HO_3; clear HO_4; clear HO_5; clear HO_6; clear HB; have HO_3 := n0_; have HO_4 := n1_; have HO_5 := n2_; have HO_6 := n3_; have HB := n4_; clear n0_ n1_ n2_ n3_ n4_; (try clear hb); (try clear hb2); (try clear hk); (try clear hi)))
                 go_meet
                 case rel => exact ⟨_, (x10_4), (by first | rfl | (simp; done) | (simp [*]; done)), H', ⟨by have := HK1.out; have := HK2.out; have := HJ46.out; have := HK4.out; first | omega | exact Nat.le_refl _⟩, ⟨by (with_reducible repeat (first | apply Kd.R_alloc | apply Kd.R_drewN | apply Kd.R_drew)); exact HO_3.out⟩, ⟨by (with_reducible repeat (first | apply Kd.R_alloc | apply Kd.R_drewN | apply Kd.R_drew)); exact HO_4.out⟩, ⟨by (with_reducible repeat (first | apply Kd.R_alloc | apply Kd.R_drewN | apply Kd.R_drew)); exact HO_5.out⟩, ⟨by (with_reducible repeat (first | apply Kd.R_alloc | apply Kd.R_drewN | apply Kd.R_drew)); exact HO_6.out⟩, ⟨belowA⟩⟩
                rw [if_neg c59] at H
                exact absurd H (by simp)
               rw [if_neg c58] at H; have c58b0 : decide (x10_4 < (t281.length : Int)) = false := decide_eq_false c58; clear c58
               (first | rw [c58b0] | (simp only [i64_w, i32_w]; rw [c58b0]) | skip)
               have H' := Aside0.mk H; clear H
               go_wp2
               go_meet
               case rel => exact ⟨_, (x10_4), (by first | rfl | (simp; done) | (simp [*]; done)), H', ⟨by have := HK1.out; have := HK2.out; have := HJ46.out; have := HK4.out; first | omega | exact Nat.le_refl _⟩, ⟨by (with_reducible repeat (first | apply Kd.R_alloc | apply Kd.R_drewN | apply Kd.R_drew)); exact HO_3.out⟩, ⟨by (with_reducible repeat (first | apply Kd.R_alloc | apply Kd.R_drewN | apply Kd.R_drew)); exact HO_4.out⟩, ⟨by (with_reducible repeat (first | apply Kd.R_alloc | apply Kd.R_drewN | apply Kd.R_drew)); exact HO_5.out⟩, ⟨by (with_reducible repeat (first | apply Kd.R_alloc | apply Kd.R_drewN | apply Kd.R_drew)); exact HO_6.out⟩, ⟨belowA⟩⟩
            case rest =>
             clear HC57
             try clear c1; try clear c2; try clear p2; try clear q2; try clear hx2; try clear hf2; try clear c3; try clear p3; try clear q3; try clear hx3; try clear hf3; try clear c4; try clear p4; try clear q4; try clear hx4; try clear hf4; try clear c5; try clear c6; try clear p6; try clear c8; try clear c8b0; try clear c8b1; try clear c9; try clear c9b0; try clear c9b1; try clear c11; try clear c17; try clear c17b0; try clear c18; try clear c18b0; try clear c19; try clear c19b0; try clear c20; try clear c20b0; try clear c20b1; try clear c22; try clear c22b0; try clear c23; try clear c23b0; try clear p24; try clear q24; try clear hx24; try clear hf24; try clear c27; try clear c27b0; try clear c27b1; try clear c28; try clear c28b0; try clear c28b1; try clear p29; try clear q29; try clear hx29; try clear c30; try clear c30b0; try clear p30; try clear q30; try clear hx30; try clear c31; try clear c31b0; try clear p32; try clear q32; try clear hx32; try clear hf32; try clear c34; try clear c36; try clear c36b0; try clear c37; try clear c37b0; try clear c38; try clear c38b0; try clear c38b1; try clear c39; try clear c39b0; try clear p40; try clear q40; try clear hx40; try clear hf40; try clear c43; try clear c43b0; try clear c44; try clear c44b0; try clear c46; try clear c49; try clear c49b0; try clear c50; try clear c50b0; try clear c52; try clear c53; try clear c58; try clear c58b0; try clear c59; try clear c59b0; try clear c61; try clear hx24_0; try clear hx290_0; try clear hx293_0; try clear hx295_0; try clear hx297_0; try clear hx299_0; try clear hx300_0; try clear hx32_0; try clear hx40_0; try clear p2; try clear p24; try clear p29; try clear p290; try clear p293; try clear p295; try clear p297; try clear p299; try clear p3; try clear p300; try clear p32; try clear p4; try clear p40; try clear p6; try clear q2; try clear q24; try clear q29; try clear q290; try clear q293; try clear q295; try clear q297; try clear q299; try clear q3; try clear q300; try clear q32; try clear q4; try clear q40
             obtain ⟨kq, x10_56, rfl, HA, HJ56, HO_3, HO_4, HO_5, HO_6, HB⟩ := hcut
             cases kq with
             | zero => exact absurd HA.out (by simp [impl_SentenceCuts.j5])
             | succ kj56 =>
              have H := HA.out; clear HA; simp only [impl_SentenceCuts.j5] at H; have HC64 := Aside0.mk H; clear H
              go_upto_block 8 with (fail)
              go_cut [10] (fun v10 wc => ∃ (kq : Nat) (x10_63 : Int), v10 = .int .i64 x10_63 ∧ Aside0 (impl_SentenceCuts.j7 kq a0 t278 t281 t284 x6_2 x10_63 x11_46 x10_56 = some r) ∧ Aside0 (kq ≤ kj56) ∧ Aside0 (Kd.R k121 121 wc w.heap.size (fun _ => True) (.slice Ao11 t278.length co11) t278) ∧ Aside0 (Kd.R (Kd.int .i64) 2 wc w.heap.size (fun _ => True) (.slice (some ad295) t281.length co13) t281) ∧ Aside0 (Kd.R Kd.bool 4 wc w.heap.size (fun k_ => some k_ ≠ (v288 : Value).ownBlock) v285 t284) ∧ Aside0 (Kd.R Kd.bool 4 wc w.heap.size (fun k_ => some k_ ≠ (v285 : Value).ownBlock) v288 x6_2) ∧ Aside0 (Below w.heap.size w wc))
              case first =>
               have H := HC64.out; clear HC64; have H' := Aside0.mk H; clear H
               go_wp2
               go_loopg [10] kj56 (fun kq v10 w' => ∃ (x10_5 : Int), v10 = .int .i64 x10_5 ∧ Aside0 (impl_SentenceCuts.l4 kq a0 t278 t281 t284 x6_2 x10_5 x11_46 x10_56 = some r) ∧ Aside0 (kq ≤ kj56) ∧ Aside0 (Kd.R k121 121 w' w.heap.size (fun _ => True) (.slice Ao11 t278.length co11) t278) ∧ Aside0 (Kd.R (Kd.int .i64) 2 w' w.heap.size (fun _ => True) (.slice (some ad295) t281.length co13) t281) ∧ Aside0 (Kd.R Kd.bool 4 w' w.heap.size (fun k_ => some k_ ≠ (v288 : Value).ownBlock) v285 t284) ∧ Aside0 (Kd.R Kd.bool 4 w' w.heap.size (fun k_ => some k_ ≠ (v285 : Value).ownBlock) v288 x6_2) ∧ Aside0 (Below w.heap.size w w'))
               case atStart => exact ⟨(x10_56), (by first | rfl | (simp; done) | (simp [*]; done)), H', ⟨Nat.le_refl _⟩, ⟨by (with_reducible repeat (first | apply Kd.R_alloc | apply Kd.R_drewN | apply Kd.R_drew)); exact HO_3.out⟩, ⟨by (with_reducible repeat (first | apply Kd.R_alloc | apply Kd.R_drewN | apply Kd.R_drew)); exact HO_4.out⟩, ⟨by (with_reducible repeat (first | apply Kd.R_alloc | apply Kd.R_drewN | apply Kd.R_drew)); exact HO_5.out⟩, ⟨by (with_reducible repeat (first | apply Kd.R_alloc | apply Kd.R_drewN | apply Kd.R_drew)); exact HO_6.out⟩, ⟨belowA⟩⟩
               case round =>
                clear H'
                try clear c1; try clear c2; try clear p2; try clear q2; try clear hx2; try clear hf2; try clear c3; try clear p3; try clear q3; try clear hx3; try clear hf3; try clear c4; try clear p4; try clear q4; try clear hx4; try clear hf4; try clear c5; try clear c6; try clear p6; try clear c8; try clear c8b0; try clear c8b1; try clear c9; try clear c9b0; try clear c9b1; try clear c11; try clear c17; try clear c17b0; try clear c18; try clear c18b0; try clear c19; try clear c19b0; try clear c20; try clear c20b0; try clear c20b1; try clear c22; try clear c22b0; try clear c23; try clear c23b0; try clear p24; try clear q24; try clear hx24; try clear hf24; try clear c27; try clear c27b0; try clear c27b1; try clear c28; try clear c28b0; try clear c28b1; try clear p29; try clear q29; try clear hx29; try clear c30; try clear c30b0; try clear p30; try clear q30; try clear hx30; try clear c31; try clear c31b0; try clear p32; try clear q32; try clear hx32; try clear hf32; try clear c34; try clear c36; try clear c36b0; try clear c37; try clear c37b0; try clear c38; try clear c38b0; try clear c38b1; try clear c39; try clear c39b0; try clear p40; try clear q40; try clear hx40; try clear hf40; try clear c43; try clear c43b0; try clear c44; try clear c44b0; try clear c46; try clear c49; try clear c49b0; try clear c50; try clear c50b0; try clear c52; try clear c53; try clear c58; try clear c58b0; try clear c59; try clear c59b0; try clear c61; try clear p64; try clear hx24_0; try clear hx290_0; try clear hx293_0; try clear hx295_0; try clear hx297_0; try clear hx299_0; try clear hx300_0; try clear hx32_0; try clear hx40_0; try clear p2; try clear p24; try clear p29; try clear p290; try clear p293; try clear p295; try clear p297; try clear p299; try clear p3; try clear p30; try clear p300; try clear p32; try clear p4; try clear p40; try clear p6; try clear q2; try clear q24; try clear q29; try clear q290; try clear q293; try clear q295; try clear q297; try clear q299; try clear q3; try clear q30; try clear q300; try clear q32; try clear q4; try clear q40
                obtain ⟨x10_5, rfl, HA, HK5, HO_3, HO_4, HO_5, HO_6, HB⟩ := hrel
                cases gk with
                | zero => exact absurd HA.out (by simp [impl_SentenceCuts.l4])
                | succ k5 =>
                 have H := HA.out; clear HA; simp only [impl_SentenceCuts.l4] at H
                 by_cases c65 : x10_5 < (t281.length : Int)
                 ·rw [if_pos c65] at H
                  have c65b0 : decide (x10_5 < (t281.length : Int)) = true := decide_eq_true c65; clear c65
                  (first | rw [c65b0] | (simp only [i64_w, i32_w]; rw [c65b0]) | skip)
                  by_cases c66 : 0 ≤ x10_5
                  ·rw [if_pos c66] at H
                   have c66b0 : decide (0 ≤ x10_5) = true := decide_eq_true c66; clear c66; replace H := Option.bind_eq_some_iff.mp H; obtain ⟨t303, A670, H⟩ := H
                   try dsimp only at H
                   have A67 := Aside0.mk A670; clear A670
                   by_cases c68 : t303 = true
                   ·subst c68
                    have H1 : (impl_SentenceCuts.l4 k5 a0 t278 t281 t284 x6_2 (wrap64 (x10_5 + 1)) x11_46 x10_56) = some r := by rw [if_pos rfl] at H; exact H
                    clear H; have H := H1; clear H1; have H' := Aside0.mk H; clear H
                    have p302 : 0 ≤ (x10_5 : Int) := of_decide_eq_true (by first | (with_reducible assumption) | assumption)
                    have q302 : x10_5 < (t281.length : Int) := of_decide_eq_true (by first | (with_reducible assumption) | assumption)
                    obtain ⟨ad302, e302, hx302_0⟩ := Kd.at_int (Kd.R_reads' HO_4.out).2.2 x10_5 p302 q302
                    obtain rfl : ad295 = ad302 := (by injection e302)
                    replace p302 := eq_true p302; replace q302 := eq_true q302
                    go_wp2_with (first | (go_at_call 117; (with_reducible refine (impl_isSpace.calls (rd t281 x10_5) true _ A67.out).mono ?_); rintro e w' ⟨rfl, ⟨nd, rfl⟩⟩))
                    go_roundg k5
                    case measure => have := HK1.out; have := HK2.out; have := HJ46.out; have := HJ56.out; have := HK5.out; omega
                    case rel => exact ⟨(wrap64 (x10_5 + 1)), (by first | rfl | (simp; done) | (simp [*]; done)), H', ⟨by have := HK1.out; have := HK2.out; have := HJ46.out; have := HJ56.out; have := HK5.out; omega⟩, ⟨by (with_reducible repeat (first | apply Kd.R_alloc | apply Kd.R_drewN | apply Kd.R_drew)); exact HO_3.out⟩, ⟨by (with_reducible repeat (first | apply Kd.R_alloc | apply Kd.R_drewN | apply Kd.R_drew)); exact HO_4.out⟩, ⟨by (with_reducible repeat (first | apply Kd.R_alloc | apply Kd.R_drewN | apply Kd.R_drew)); exact HO_5.out⟩, ⟨by (with_reducible repeat (first | apply Kd.R_alloc | apply Kd.R_drewN | apply Kd.R_drew)); exact HO_6.out⟩, ⟨belowA⟩⟩
                   replace c68 := Bool.eq_false_iff.mpr c68; subst c68
                   have H1 : (impl_SentenceCuts.j7 k5 a0 t278 t281 t284 x6_2 x10_5 x11_46 x10_56) = some r := by rw [if_neg (show ¬ (false = true) by decide)] at H; exact H
                   clear H; have H := H1; clear H1; have H' := Aside0.mk H; clear H
                   have p302 : 0 ≤ (x10_5 : Int) := of_decide_eq_true (by first | (with_reducible assumption) | assumption)
                   have q302 : x10_5 < (t281.length : Int) := of_decide_eq_true (by first | (with_reducible assumption) | assumption)
                   obtain ⟨ad302, e302, hx302_0⟩ := Kd.at_int (Kd.R_reads' HO_4.out).2.2 x10_5 p302 q302
                   obtain rfl : ad295 = ad302 := (by injection e302)
                   replace p302 := eq_true p302; replace q302 := eq_true q302
                   go_wp2_with (first | (go_at_call 117; (with_reducible refine (impl_isSpace.calls (rd t281 x10_5) false _ A67.out).mono ?_); rintro e w' ⟨rfl, ⟨nd, rfl⟩⟩))
                   go_meet
                   case rel => exact ⟨_, (x10_5), (by first | rfl | (simp; done) | (simp [*]; done)), H', ⟨by have := HK1.out; have := HK2.out; have := HJ46.out; have := HJ56.out; have := HK5.out; first | omega | exact Nat.le_refl _⟩, ⟨by (with_reducible repeat (first | apply Kd.R_alloc | apply Kd.R_drewN | apply Kd.R_drew)); exact HO_3.out⟩, ⟨by (with_reducible repeat (first | apply Kd.R_alloc | apply Kd.R_drewN | apply Kd.R_drew)); exact HO_4.out⟩, ⟨by (with_reducible repeat (first | apply Kd.R_alloc | apply Kd.R_drewN | apply Kd.R_drew)); exact HO_5.out⟩, ⟨by (with_reducible repeat (first | apply Kd.R_alloc | apply Kd.R_drewN | apply Kd.R_drew)); exact HO_6.out⟩, ⟨belowA⟩⟩
                  rw [if_neg c66] at H
                  exact absurd H (by simp)
                 rw [if_neg c65] at H; have c65b0 : decide (x10_5 < (t281.length : Int)) = false := decide_eq_false c65; clear c65
                 (first | rw [c65b0] | (simp only [i64_w, i32_w]; rw [c65b0]) | skip)
                 have H' := Aside0.mk H; clear H
                 go_wp2
                 go_meet
                 case rel => exact ⟨_, (x10_5), (by first | rfl | (simp; done) | (simp [*]; done)), H', ⟨by have := HK1.out; have := HK2.out; have := HJ46.out; have := HJ56.out; have := HK5.out; first | omega | exact Nat.le_refl _⟩, ⟨by (with_reducible repeat (first | apply Kd.R_alloc | apply Kd.R_drewN | apply Kd.R_drew)); exact HO_3.out⟩, ⟨by (with_reducible repeat (first | apply Kd.R_alloc | apply Kd.R_drewN | apply Kd.R_drew)); exact HO_4.out⟩, ⟨by (with_reducible repeat (first | apply Kd.R_alloc | apply Kd.R_drewN | apply Kd.R_drew)); exact HO_5.out⟩, ⟨by (with_reducible repeat (first | apply Kd.R_alloc | apply Kd.R_drewN | apply Kd.R_drew)); exact HO_6.out⟩, ⟨belowA⟩⟩
              case rest =>
               clear HC64
               try clear c1; try clear c2; try clear p2; try clear q2; try clear hx2; try clear hf2; try clear c3; try clear p3; try clear q3; try clear hx3; try clear hf3; try clear c4; try clear p4; try clear q4; try clear hx4; try clear hf4; try clear c5; try clear c6; try clear p6; try clear c8; try clear c8b0; try clear c8b1; try clear c9; try clear c9b0; try clear c9b1; try clear c11; try clear c17; try clear c17b0; try clear c18; try clear c18b0; try clear c19; try clear c19b0; try clear c20; try clear c20b0; try clear c20b1; try clear c22; try clear c22b0; try clear c23; try clear c23b0; try clear p24; try clear q24; try clear hx24; try clear hf24; try clear c27; try clear c27b0; try clear c27b1; try clear c28; try clear c28b0; try clear c28b1; try clear p29; try clear q29; try clear hx29; try clear c30; try clear c30b0; try clear p30; try clear q30; try clear hx30; try clear c31; try clear c31b0; try clear p32; try clear q32; try clear hx32; try clear hf32; try clear c34; try clear c36; try clear c36b0; try clear c37; try clear c37b0; try clear c38; try clear c38b0; try clear c38b1; try clear c39; try clear c39b0; try clear p40; try clear q40; try clear hx40; try clear hf40; try clear c43; try clear c43b0; try clear c44; try clear c44b0; try clear c46; try clear c49; try clear c49b0; try clear c50; try clear c50b0; try clear c52; try clear c53; try clear c58; try clear c58b0; try clear c59; try clear c59b0; try clear c61; try clear p64; try clear c65; try clear c65b0; try clear c66; try clear c66b0; try clear c68; try clear hx24_0; try clear hx290_0; try clear hx293_0; try clear hx295_0; try clear hx297_0; try clear hx299_0; try clear hx300_0; try clear hx302_0; try clear hx32_0; try clear hx40_0; try clear p2; try clear p24; try clear p29; try clear p290; try clear p293; try clear p295; try clear p297; try clear p299; try clear p3; try clear p30; try clear p300; try clear p302; try clear p32; try clear p4; try clear p40; try clear p6; try clear p64; try clear q2; try clear q24; try clear q29; try clear q290; try clear q293; try clear q295; try clear q297; try clear q299; try clear q3; try clear q30; try clear q300; try clear q302; try clear q32; try clear q4; try clear q40
               obtain ⟨kq, x10_63, rfl, HA, HJ63, HO_3, HO_4, HO_5, HO_6, HB⟩ := hcut
               cases kq with
               | zero => exact absurd HA.out (by simp [impl_SentenceCuts.j7])
               | succ kj63 =>
                have H := HA.out; clear HA; simp only [impl_SentenceCuts.j7] at H; have HC69 := Aside0.mk H; clear H
                go_upto_block 10 with (fail)
                go_cut [14] (fun v14 wc => ∃ (kq : Nat) (x14_68 : Int), v14 = .int .i64 x14_68 ∧ Aside0 (impl_SentenceCuts.j9 kq a0 t278 t281 t284 x6_2 x10_63 x11_46 (decide (x10_63 > x10_56)) x14_68 = some r) ∧ Aside0 (kq ≤ kj63) ∧ Aside0 (Kd.R k121 121 wc w.heap.size (fun _ => True) (.slice Ao11 t278.length co11) t278) ∧ Aside0 (Kd.R (Kd.int .i64) 2 wc w.heap.size (fun _ => True) (.slice (some ad295) t281.length co13) t281) ∧ Aside0 (Kd.R Kd.bool 4 wc w.heap.size (fun k_ => some k_ ≠ (v288 : Value).ownBlock) v285 t284) ∧ Aside0 (Kd.R Kd.bool 4 wc w.heap.size (fun k_ => some k_ ≠ (v285 : Value).ownBlock) v288 x6_2) ∧ Aside0 (Below w.heap.size w wc))
                case first =>
                 have H := HC69.out; clear HC69; have H' := Aside0.mk H; clear H
                 go_wp2
                 go_loopg [14] kj63 (fun kq v14 w' => ∃ (x14_6 : Int), v14 = .int .i64 x14_6 ∧ Aside0 (impl_SentenceCuts.l5 kq a0 t278 t281 t284 x6_2 x10_63 x11_46 (decide (x10_63 > x10_56)) x14_6 = some r) ∧ Aside0 (kq ≤ kj63) ∧ Aside0 (Kd.R k121 121 w' w.heap.size (fun _ => True) (.slice Ao11 t278.length co11) t278) ∧ Aside0 (Kd.R (Kd.int .i64) 2 w' w.heap.size (fun _ => True) (.slice (some ad295) t281.length co13) t281) ∧ Aside0 (Kd.R Kd.bool 4 w' w.heap.size (fun k_ => some k_ ≠ (v288 : Value).ownBlock) v285 t284) ∧ Aside0 (Kd.R Kd.bool 4 w' w.heap.size (fun k_ => some k_ ≠ (v285 : Value).ownBlock) v288 x6_2) ∧ Aside0 (Below w.heap.size w w'))
                 case atStart => exact ⟨(x10_63), (by first | rfl | (simp; done) | (simp [*]; done)), H', ⟨Nat.le_refl _⟩, ⟨by (with_reducible repeat (first | apply Kd.R_alloc | apply Kd.R_drewN | apply Kd.R_drew)); exact HO_3.out⟩, ⟨by (with_reducible repeat (first | apply Kd.R_alloc | apply Kd.R_drewN | apply Kd.R_drew)); exact HO_4.out⟩, ⟨by (with_reducible repeat (first | apply Kd.R_alloc | apply Kd.R_drewN | apply Kd.R_drew)); exact HO_5.out⟩, ⟨by (with_reducible repeat (first | apply Kd.R_alloc | apply Kd.R_drewN | apply Kd.R_drew)); exact HO_6.out⟩, ⟨belowA⟩⟩
                 case round =>
                  clear H'
                  try clear c1; try clear c2; try clear p2; try clear q2; try clear hx2; try clear hf2; try clear c3; try clear p3; try clear q3; try clear hx3; try clear hf3; try clear c4; try clear p4; try clear q4; try clear hx4; try clear hf4; try clear c5; try clear c6; try clear p6; try clear c8; try clear c8b0; try clear c8b1; try clear c9; try clear c9b0; try clear c9b1; try clear c11; try clear c17; try clear c17b0; try clear c18; try clear c18b0; try clear c19; try clear c19b0; try clear c20; try clear c20b0; try clear c20b1; try clear c22; try clear c22b0; try clear c23; try clear c23b0; try clear p24; try clear q24; try clear hx24; try clear hf24; try clear c27; try clear c27b0; try clear c27b1; try clear c28; try clear c28b0; try clear c28b1; try clear p29; try clear q29; try clear hx29; try clear c30; try clear c30b0; try clear p30; try clear q30; try clear hx30; try clear c31; try clear c31b0; try clear p32; try clear q32; try clear hx32; try clear hf32; try clear c34; try clear c36; try clear c36b0; try clear c37; try clear c37b0; try clear c38; try clear c38b0; try clear c38b1; try clear c39; try clear c39b0; try clear p40; try clear q40; try clear hx40; try clear hf40; try clear c43; try clear c43b0; try clear c44; try clear c44b0; try clear c46; try clear c49; try clear c49b0; try clear c50; try clear c50b0; try clear c52; try clear c53; try clear c58; try clear c58b0; try clear c59; try clear c59b0; try clear c61; try clear p64; try clear c65; try clear c65b0; try clear c66; try clear c66b0; try clear c68; try clear hx24_0; try clear hx290_0; try clear hx293_0; try clear hx295_0; try clear hx297_0; try clear hx299_0; try clear hx300_0; try clear hx302_0; try clear hx32_0; try clear hx40_0; try clear p2; try clear p24; try clear p29; try clear p290; try clear p293; try clear p295; try clear p297; try clear p299; try clear p3; try clear p30; try clear p300; try clear p302; try clear p32; try clear p4; try clear p40; try clear p6; try clear p64; try clear q2; try clear q24; try clear q29; try clear q290; try clear q293; try clear q295; try clear q297; try clear q299; try clear q3; try clear q30; try clear q300; try clear q302; try clear q32; try clear q4; try clear q40
                  obtain ⟨x14_6, rfl, HA, HK6, HO_3, HO_4, HO_5, HO_6, HB⟩ := hrel
                  cases gk with
                  | zero => exact absurd HA.out (by simp [impl_SentenceCuts.l5])
                  | succ k6 =>
                   have H := HA.out; clear HA; simp only [impl_SentenceCuts.l5] at H
                   by_cases c70 : x14_6 < (t281.length : Int)
                   ·rw [if_pos c70] at H
                    have c70b0 : decide (x14_6 < (t281.length : Int)) = true := decide_eq_true c70; clear c70
                    (first | rw [c70b0] | (simp only [i64_w, i32_w]; rw [c70b0]) | skip)
                    by_cases c71 : 0 ≤ x14_6
                    ·rw [if_pos c71] at H
                     have c71b0 : decide (0 ≤ x14_6) = true := decide_eq_true c71; clear c71; replace H := Option.bind_eq_some_iff.mp H; obtain ⟨t305, A720, H⟩ := H
                     try dsimp only at H
                     have A72 := Aside0.mk A720; clear A720
                     by_cases c73 : t305 = true
                     ·subst c73
                      have H1 : (impl_SentenceCuts.l5 k6 a0 t278 t281 t284 x6_2 x10_63 x11_46 (decide (x10_63 > x10_56)) (wrap64 (x14_6 + 1))) = some r := by rw [if_pos rfl] at H; exact H
                      clear H; have H := H1; clear H1; have H' := Aside0.mk H; clear H
                      have p304 : 0 ≤ (x14_6 : Int) := of_decide_eq_true (by first | (with_reducible assumption) | assumption)
                      have q304 : x14_6 < (t281.length : Int) := of_decide_eq_true (by first | (with_reducible assumption) | assumption)
                      obtain ⟨ad304, e304, hx304_0⟩ := Kd.at_int (Kd.R_reads' HO_4.out).2.2 x14_6 p304 q304
                      obtain rfl : ad295 = ad304 := (by injection e304)
                      replace p304 := eq_true p304; replace q304 := eq_true q304
                      go_wp2_with (first | (go_at_call 118; (with_reducible refine (impl_isMark.calls (rd t281 x14_6) true _ A72.out).mono ?_); rintro e w' ⟨rfl, ⟨nd, rfl⟩⟩))
                      go_roundg k6
                      case measure => have := HK1.out; have := HK2.out; have := HJ46.out; have := HJ56.out; have := HJ63.out; have := HK6.out; omega
                      case rel => exact ⟨(wrap64 (x14_6 + 1)), (by first | rfl | (simp; done) | (simp [*]; done)), H', ⟨by have := HK1.out; have := HK2.out; have := HJ46.out; have := HJ56.out; have := HJ63.out; have := HK6.out; omega⟩, ⟨by (with_reducible repeat (first | apply Kd.R_alloc | apply Kd.R_drewN | apply Kd.R_drew)); exact HO_3.out⟩, ⟨by (with_reducible repeat (first | apply Kd.R_alloc | apply Kd.R_drewN | apply Kd.R_drew)); exact HO_4.out⟩, ⟨by (with_reducible repeat (first | apply Kd.R_alloc | apply Kd.R_drewN | apply Kd.R_drew)); exact HO_5.out⟩, ⟨by (with_reducible repeat (first | apply Kd.R_alloc | apply Kd.R_drewN | apply Kd.R_drew)); exact HO_6.out⟩, ⟨belowA⟩⟩
                     replace c73 := Bool.eq_false_iff.mpr c73; subst c73
                     have H1 : (impl_SentenceCuts.j9 k6 a0 t278 t281 t284 x6_2 x10_63 x11_46 (decide (x10_63 > x10_56)) x14_6) = some r := by rw [if_neg (show ¬ (false = true) by decide)] at H; exact H
                     clear H; have H := H1; clear H1; have H' := Aside0.mk H; clear H
                     have p304 : 0 ≤ (x14_6 : Int) := of_decide_eq_true (by first | (with_reducible assumption) | assumption)
                     have q304 : x14_6 < (t281.length : Int) := of_decide_eq_true (by first | (with_reducible assumption) | assumption)
                     obtain ⟨ad304, e304, hx304_0⟩ := Kd.at_int (Kd.R_reads' HO_4.out).2.2 x14_6 p304 q304
                     obtain rfl : ad295 = ad304 := (by injection e304)
                     replace p304 := eq_true p304; replace q304 := eq_true q304
                     go_wp2_with (first | (go_at_call 118; (with_reducible refine (impl_isMark.calls (rd t281 x14_6) false _ A72.out).mono ?_); rintro e w' ⟨rfl, ⟨nd, rfl⟩⟩))
                     go_meet
                     case rel => exact ⟨_, (x14_6), (by first | rfl | (simp; done) | (simp [*]; done)), H', ⟨by have := HK1.out; have := HK2.out; have := HJ46.out; have := HJ56.out; have := HJ63.out; have := HK6.out; first | omega | exact Nat.le_refl _⟩, ⟨by (with_reducible repeat (first | apply Kd.R_alloc | apply Kd.R_drewN | apply Kd.R_drew)); exact HO_3.out⟩, ⟨by (with_reducible repeat (first | apply Kd.R_alloc | apply Kd.R_drewN | apply Kd.R_drew)); exact HO_4.out⟩, ⟨by (with_reducible repeat (first | apply Kd.R_alloc | apply Kd.R_drewN | apply Kd.R_drew)); exact HO_5.out⟩, ⟨by (with_reducible repeat (first | apply Kd.R_alloc | apply Kd.R_drewN | apply Kd.R_drew)); exact HO_6.out⟩, ⟨belowA⟩⟩
                    rw [if_neg c71] at H
                    exact absurd H (by simp)
                   rw [if_neg c70] at H; have c70b0 : decide (x14_6 < (t281.length : Int)) = false := decide_eq_false c70; clear c70
                   (first | rw [c70b0] | (simp only [i64_w, i32_w]; rw [c70b0]) | skip)
                   have H' := Aside0.mk H; clear H
                   go_wp2
                   go_meet
                   case rel => exact ⟨_, (x14_6), (by first | rfl | (simp; done) | (simp [*]; done)), H', ⟨by have := HK1.out; have := HK2.out; have := HJ46.out; have := HJ56.out; have := HJ63.out; have := HK6.out; first | omega | exact Nat.le_refl _⟩, ⟨by (with_reducible repeat (first | apply Kd.R_alloc | apply Kd.R_drewN | apply Kd.R_drew)); exact HO_3.out⟩, ⟨by (with_reducible repeat (first | apply Kd.R_alloc | apply Kd.R_drewN | apply Kd.R_drew)); exact HO_4.out⟩, ⟨by (with_reducible repeat (first | apply Kd.R_alloc | apply Kd.R_drewN | apply Kd.R_drew)); exact HO_5.out⟩, ⟨by (with_reducible repeat (first | apply Kd.R_alloc | apply Kd.R_drewN | apply Kd.R_drew)); exact HO_6.out⟩, ⟨belowA⟩⟩
                case rest =>
                 clear HC69
                 try clear c1; try clear c2; try clear p2; try clear q2; try clear hx2; try clear hf2; try clear c3; try clear p3; try clear q3; try clear hx3; try clear hf3; try clear c4; try clear p4; try clear q4; try clear hx4; try clear hf4; try clear c5; try clear c6; try clear p6; try clear c7; try clear c8; try clear c8b0; try clear c8b1; try clear c9; try clear c9b0; try clear c9b1; try clear c11; try clear c17; try clear c17b0; try clear c18; try clear c18b0; try clear c19; try clear c19b0; try clear c20; try clear c20b0; try clear c20b1; try clear c22; try clear c22b0; try clear c23; try clear c23b0; try clear p24; try clear q24; try clear hx24; try clear hf24; try clear c27; try clear c27b0; try clear c27b1; try clear c28; try clear c28b0; try clear c28b1; try clear p29; try clear q29; try clear hx29; try clear c30; try clear c30b0; try clear p30; try clear q30; try clear hx30; try clear c31; try clear c31b0; try clear p32; try clear q32; try clear hx32; try clear hf32; try clear c34; try clear c36; try clear c36b0; try clear c37; try clear c37b0; try clear c38; try clear c38b0; try clear c38b1; try clear c39; try clear c39b0; try clear p40; try clear q40; try clear hx40; try clear hf40; try clear c43; try clear c43b0; try clear c44; try clear c44b0; try clear c46; try clear c49; try clear c49b0; try clear c50; try clear c50b0; try clear c52; try clear c53; try clear c58; try clear c58b0; try clear c59; try clear c59b0; try clear c61; try clear p64; try clear c65; try clear c65b0; try clear c66; try clear c66b0; try clear c68; try clear c70; try clear c70b0; try clear c71; try clear c71b0; try clear c73; try clear hx24_0; try clear hx290_0; try clear hx293_0; try clear hx295_0; try clear hx297_0; try clear hx299_0; try clear hx300_0; try clear hx302_0; try clear hx304_0; try clear hx32_0; try clear hx40_0; try clear p2; try clear p24; try clear p29; try clear p290; try clear p293; try clear p295; try clear p297; try clear p299; try clear p3; try clear p30; try clear p300; try clear p302; try clear p304; try clear p32; try clear p4; try clear p40; try clear p6; try clear p64; try clear q2; try clear q24; try clear q29; try clear q290; try clear q293; try clear q295; try clear q297; try clear q299; try clear q3; try clear q30; try clear q300; try clear q302; try clear q304; try clear q32; try clear q4; try clear q40
                 obtain ⟨kq, x14_68, rfl, HA, HJ68, HO_3, HO_4, HO_5, HO_6, HB⟩ := hcut
                 cases kq with
                 | zero => exact absurd HA.out (by simp [impl_SentenceCuts.j9])
                 | succ kj68 =>
                  have H := HA.out; clear HA; simp only [impl_SentenceCuts.j9] at H; have HC74 := Aside0.mk H; clear H
                  go_upto_region 31 with (fail)
                  go_cut [147] (fun v147 wc => ∃ (kq : Nat) (x147_73 : Bool), v147 = .bool x147_73 ∧ Aside0 (impl_SentenceCuts.j10 kq a0 t278 t281 t284 x6_2 x10_63 (decide (x10_63 > x10_56)) x14_68 false x147_73 = some r) ∧ Aside0 (kq ≤ kj68) ∧ Aside0 (Kd.R k121 121 wc w.heap.size (fun _ => True) (.slice Ao11 t278.length co11) t278) ∧ Aside0 (Kd.R (Kd.int .i64) 2 wc w.heap.size (fun _ => True) (.slice (some ad295) t281.length co13) t281) ∧ Aside0 (Kd.R Kd.bool 4 wc w.heap.size (fun k_ => some k_ ≠ (v288 : Value).ownBlock) v285 t284) ∧ Aside0 (Kd.R Kd.bool 4 wc w.heap.size (fun k_ => some k_ ≠ (v285 : Value).ownBlock) v288 x6_2) ∧ Aside0 (Below w.heap.size w wc))
                  case first =>
                   have H := HC74.out; clear HC74
                   by_cases c75 : x11_46 = true
                   ·subst c75
                    have H1 : (impl_SentenceCuts.j10 kj68 a0 t278 t281 t284 x6_2 x10_63 (decide (x10_63 > x10_56)) x14_68 false (decide (x14_68 < (t281.length : Int)))) = some r := by rw [if_pos rfl] at H; exact H
                    clear H; have H := H1; clear H1; have H' := Aside0.mk H; clear H
                    go_wp2
                    go_meet
                    case rel => exact ⟨_, (decide (x14_68 < (t281.length : Int))), (by first | rfl | (simp; done) | (simp [*]; done)), H', ⟨by have := HK1.out; have := HK2.out; have := HJ46.out; have := HJ56.out; have := HJ63.out; have := HJ68.out; first | omega | exact Nat.le_refl _⟩, ⟨by (with_reducible repeat (first | apply Kd.R_alloc | apply Kd.R_drewN | apply Kd.R_drew)); exact HO_3.out⟩, ⟨by (with_reducible repeat (first | apply Kd.R_alloc | apply Kd.R_drewN | apply Kd.R_drew)); exact HO_4.out⟩, ⟨by (with_reducible repeat (first | apply Kd.R_alloc | apply Kd.R_drewN | apply Kd.R_drew)); exact HO_5.out⟩, ⟨by (with_reducible repeat (first | apply Kd.R_alloc | apply Kd.R_drewN | apply Kd.R_drew)); exact HO_6.out⟩, ⟨belowA⟩⟩
                   replace c75 := Bool.eq_false_iff.mpr c75; subst c75
                   have H1 : (impl_SentenceCuts.j10 kj68 a0 t278 t281 t284 x6_2 x10_63 (decide (x10_63 > x10_56)) x14_68 false false) = some r := by rw [if_neg (show ¬ (false = true) by decide)] at H; exact H
                   clear H; have H := H1; clear H1; have H' := Aside0.mk H; clear H
                   go_wp2
                   go_meet
                   case rel => exact ⟨_, (false), (by first | rfl | (simp; done) | (simp [*]; done)), H', ⟨by have := HK1.out; have := HK2.out; have := HJ46.out; have := HJ56.out; have := HJ63.out; have := HJ68.out; first | omega | exact Nat.le_refl _⟩, ⟨by (with_reducible repeat (first | apply Kd.R_alloc | apply Kd.R_drewN | apply Kd.R_drew)); exact HO_3.out⟩, ⟨by (with_reducible repeat (first | apply Kd.R_alloc | apply Kd.R_drewN | apply Kd.R_drew)); exact HO_4.out⟩, ⟨by (with_reducible repeat (first | apply Kd.R_alloc | apply Kd.R_drewN | apply Kd.R_drew)); exact HO_5.out⟩, ⟨by (with_reducible repeat (first | apply Kd.R_alloc | apply Kd.R_drewN | apply Kd.R_drew)); exact HO_6.out⟩, ⟨belowA⟩⟩
                  case rest =>
                   clear HC74
                   try clear c1; try clear c2; try clear p2; try clear q2; try clear hx2; try clear hf2; try clear c3; try clear p3; try clear q3; try clear hx3; try clear hf3; try clear c4; try clear p4; try clear q4; try clear hx4; try clear hf4; try clear c5; try clear c6; try clear p6; try clear c7; try clear c8; try clear c8b0; try clear c8b1; try clear c9; try clear c9b0; try clear c9b1; try clear c11; try clear c17; try clear c17b0; try clear c18; try clear c18b0; try clear c19; try clear c19b0; try clear c20; try clear c20b0; try clear c20b1; try clear c22; try clear c22b0; try clear c23; try clear c23b0; try clear p24; try clear q24; try clear hx24; try clear hf24; try clear c27; try clear c27b0; try clear c27b1; try clear c28; try clear c28b0; try clear c28b1; try clear p29; try clear q29; try clear hx29; try clear c30; try clear c30b0; try clear p30; try clear q30; try clear hx30; try clear c31; try clear c31b0; try clear p32; try clear q32; try clear hx32; try clear hf32; try clear c34; try clear c36; try clear c36b0; try clear c37; try clear c37b0; try clear c38; try clear c38b0; try clear c38b1; try clear c39; try clear c39b0; try clear p40; try clear q40; try clear hx40; try clear hf40; try clear c43; try clear c43b0; try clear c44; try clear c44b0; try clear c46; try clear c49; try clear c49b0; try clear c50; try clear c50b0; try clear c52; try clear c53; try clear c58; try clear c58b0; try clear c59; try clear c59b0; try clear c61; try clear p64; try clear c65; try clear c65b0; try clear c66; try clear c66b0; try clear c68; try clear c70; try clear c70b0; try clear c71; try clear c71b0; try clear c73; try clear c75; try clear hx24_0; try clear hx290_0; try clear hx293_0; try clear hx295_0; try clear hx297_0; try clear hx299_0; try clear hx300_0; try clear hx302_0; try clear hx304_0; try clear hx32_0; try clear hx40_0; try clear p2; try clear p24; try clear p29; try clear p290; try clear p293; try clear p295; try clear p297; try clear p299; try clear p3; try clear p30; try clear p300; try clear p302; try clear p304; try clear p32; try clear p4; try clear p40; try clear p6; try clear p64; try clear q2; try clear q24; try clear q29; try clear q290; try clear q293; try clear q295; try clear q297; try clear q299; try clear q3; try clear q30; try clear q300; try clear q302; try clear q304; try clear q32; try clear q4; try clear q40
                   obtain ⟨kq, x147_73, rfl, HA, HJ73, HO_3, HO_4, HO_5, HO_6, HB⟩ := hcut
                   cases kq with
                   | zero => exact absurd HA.out (by simp [impl_SentenceCuts.j10])
                   | succ kj73 =>
                    have H := HA.out; clear HA; simp only [impl_SentenceCuts.j10] at H
                    by_cases c76 : x147_73 = true
                    ·subst c76
                     have H1 : (if 0 ≤ x14_68 then (if x14_68 < (t281.length : Int) then ((impl_Category.f (rd t281 x14_68)).bind fun t307 => (if t307 = 5 then (impl_SentenceCuts.l1 kj73 a0 t278 t281 t284 x6_2 x10_63) else (if (decide (x10_63 > x10_56)) = true then (if 0 ≤ x10_63 then (if x10_63 < (x6_2.length : Int) then (impl_SentenceCuts.l1 kj73 a0 t278 t281 t284 (x6_2.set (x10_63 : Int).toNat true) x10_63) else (none)) else (none)) else ((impl_isLetter.f (rd t281 x14_68)).bind fun t309 => (if t309 = true then (impl_SentenceCuts.l1 kj73 a0 t278 t281 t284 x6_2 x10_63) else ((impl_isDigit.f (rd t281 x14_68)).bind fun t310 => (if t310 = true then (impl_SentenceCuts.l1 kj73 a0 t278 t281 t284 x6_2 x10_63) else (if 0 ≤ x10_63 then (if x10_63 < (x6_2.length : Int) then (impl_SentenceCuts.l1 kj73 a0 t278 t281 t284 (x6_2.set (x10_63 : Int).toNat true) x10_63) else (none)) else (none))))))))) else (none)) else (none)) = some r := by rw [if_pos rfl] at H; exact H
                     clear H; have H := H1; clear H1
                     by_cases c77 : 0 ≤ x14_68
                     ·rw [if_pos c77] at H
                      have c77b0 : decide (0 ≤ x14_68) = true := decide_eq_true c77; clear c77
                      by_cases c78 : x14_68 < (t281.length : Int)
                      ·rw [if_pos c78] at H
                       have c78b0 : decide (x14_68 < (t281.length : Int)) = true := decide_eq_true c78; clear c78; replace H := Option.bind_eq_some_iff.mp H; obtain ⟨t307, A790, H⟩ := H
                       try dsimp only at H
                       have A79 := Aside0.mk A790; clear A790
                       by_cases c80 : t307 = 5
                       ·rw [if_pos c80] at H
                        have c80b0 : (t307 == 5) = true := beq_iff_eq.mpr c80; have c80b1 : (t307 != 5) = false := bne_eq_false_iff_eq.mpr c80; clear c80; have H' := Aside0.mk H; clear H
                        have p306 : 0 ≤ (x14_68 : Int) := of_decide_eq_true (by first | (with_reducible assumption) | assumption)
                        have q306 : x14_68 < (t281.length : Int) := of_decide_eq_true (by first | (with_reducible assumption) | assumption)
                        obtain ⟨ad306, e306, hx306_0⟩ := Kd.at_int (Kd.R_reads' HO_4.out).2.2 x14_68 p306 q306
                        obtain rfl : ad295 = ad306 := (by injection e306)
                        replace p306 := eq_true p306; replace q306 := eq_true q306
                        go_wp2_with (first | ((with_reducible refine gate_callee (f := 119) rfl ?_); refine goesL_ (some 153) rfl rfl Tryd.func119 (by kernel_rfl) rfl #[.int .i64 (rd t281 x14_68)] rfl (by (try simp only [List.map_toArray, List.map_cons, List.map_nil]); first | done | rfl) ?_; (with_reducible refine (impl_Category.calls (rd t281 x14_68) t307 _ A79.out).mono ?_); rintro e w' ⟨rfl, ⟨nd, rfl⟩⟩; refine ⟨_, rfl, ?_⟩))
                        go_roundg kj73
                        case measure => have := HK1.out; have := HK2.out; have := HJ46.out; have := HJ56.out; have := HJ63.out; have := HJ68.out; have := HJ73.out; omega
                        case rel => exact ⟨(x6_2), (x10_63), (by first | rfl | (simp; done) | (simp [*]; done)), H', ⟨by have := HK1.out; have := HK2.out; have := HJ46.out; have := HJ56.out; have := HJ63.out; have := HJ68.out; have := HJ73.out; omega⟩, ⟨by (with_reducible repeat (first | apply Kd.R_alloc | apply Kd.R_drewN | apply Kd.R_drew)); exact HO_3.out⟩, ⟨by (with_reducible repeat (first | apply Kd.R_alloc | apply Kd.R_drewN | apply Kd.R_drew)); exact HO_4.out⟩, ⟨by (with_reducible repeat (first | apply Kd.R_alloc | apply Kd.R_drewN | apply Kd.R_drew)); exact HO_5.out⟩, ⟨by (with_reducible repeat (first | apply Kd.R_alloc | apply Kd.R_drewN | apply Kd.R_drew)); exact HO_6.out⟩, ⟨belowA⟩⟩
                       rw [if_neg c80] at H; have c80b0 : (t307 == 5) = false := beq_eq_false_iff_ne.mpr c80; have c80b1 : (t307 != 5) = true := bne_iff_ne.mpr c80
                       by_cases c81 : (decide (x10_63 > x10_56)) = true
                       ·rw [if_pos c81] at H
                        have c81b0 : (decide (x10_63 > x10_56)) = true := c81; clear c81
                        by_cases c82 : 0 ≤ x10_63
                        ·rw [if_pos c82] at H
                         have c82b0 : decide (0 ≤ x10_63) = true := decide_eq_true c82; clear c82
                         by_cases c83 : x10_63 < (x6_2.length : Int)
                         ·rw [if_pos c83] at H
                          have c83b0 : decide (x10_63 < (x6_2.length : Int)) = true := decide_eq_true c83; clear c83; obtain ⟨y308, hy308⟩ : ∃ y_ : List Bool, y_ = (x6_2.set (x10_63 : Int).toNat true) := ⟨_, rfl⟩
                          replace H : (impl_SentenceCuts.l1 kj73 a0 t278 t281 t284 y308 x10_63) = some r := by first | (rw [hy308]; with_reducible exact H) | (have H2_ := (Option.bind_some _ _).symm.trans H; rw [hy308]; with_reducible exact H2_) | (have H2_ := (Option.bind_some _ _).symm.trans H; with_reducible exact H2_) | with_reducible exact H | (rw [hy308]; exact H) | exact H
                          have Ny308 := Aside0.mk hy308; clear hy308; have H' := Aside0.mk H; clear H
                          have p306 : 0 ≤ (x14_68 : Int) := of_decide_eq_true (by first | (with_reducible assumption) | assumption)
                          have q306 : x14_68 < (t281.length : Int) := of_decide_eq_true (by first | (with_reducible assumption) | assumption)
                          obtain ⟨ad306, e306, hx306_0⟩ := Kd.at_int (Kd.R_reads' HO_4.out).2.2 x14_68 p306 q306
                          obtain rfl : ad295 = ad306 := (by injection e306)
                          replace p306 := eq_true p306; replace q306 := eq_true q306
                          go_wp2_with (first | ((with_reducible refine gate_callee (f := 119) rfl ?_); refine goesL_ (some 153) rfl rfl Tryd.func119 (by kernel_rfl) rfl #[.int .i64 (rd t281 x14_68)] rfl (by (try simp only [List.map_toArray, List.map_cons, List.map_nil]); first | done | rfl) ?_; (with_reducible refine (impl_Category.calls (rd t281 x14_68) t307 _ A79.out).mono ?_); rintro e w' ⟨rfl, ⟨nd, rfl⟩⟩; refine ⟨_, rfl, ?_⟩; (try (rw [drewN_self wc]; generalize hq_ : World.drewN wc _ = wc; have n0_ : Aside0 (Kd.R k121 121 wc w.heap.size (fun _ => True) (.slice Ao11 t278.length co11) t278) := ⟨by rw [← hq_]; exact (by (with_reducible repeat (first | apply Kd.R_alloc | apply Kd.R_drewN | apply Kd.R_drew)); exact HO_3.out)⟩; have n1_ : Aside0 (Kd.R (Kd.int .i64) 2 wc w.heap.size (fun _ => True) (.slice (some ad295) t281.length co13) t281) := ⟨by rw [← hq_]; exact (by (with_reducible repeat (first | apply Kd.R_alloc | apply Kd.R_drewN | apply Kd.R_drew)); exact HO_4.out)⟩; have n2_ : Aside0 (Kd.R Kd.bool 4 wc w.heap.size (fun k_ => some k_ ≠ (v288 : Value).ownBlock) v285 t284) := ⟨by rw [← hq_]; exact (by (with_reducible repeat (first | apply Kd.R_alloc | apply Kd.R_drewN | apply Kd.R_drew)); exact HO_5.out)⟩; have n3_ : Aside0 (Kd.R Kd.bool 4 wc w.heap.size (fun k_ => some k_ ≠ (v285 : Value).ownBlock) v288 x6_2) := ⟨by rw [← hq_]; exact (by (with_reducible repeat (first | apply Kd.R_alloc | apply Kd.R_drewN | apply Kd.R_drew)); exact HO_6.out)⟩; have n4_ : Aside0 (Below w.heap.size w wc) := ⟨by rw [← hq_]; exact (belowA)⟩; clear HO_3 HO_4 HO_5 HO_6 HB hq_; have HO_3 := n0_; have HO_4 := n1_; have HO_5 := n2_; have HO_6 := n3_; have HB := n4_; clear n0_ n1_ n2_ n3_ n4_)); have p84 : 0 ≤ (x10_63 : Int) := of_decide_eq_true (by first | (with_reducible assumption) | assumption); have q84 : (x10_63 : Int) < ((x6_2.length : Int) : Int) := of_decide_eq_true (by first | (with_reducible assumption) | assumption); obtain ⟨go84, co84, eo84, gb84, gl84, cl84, HG84⟩ := Kd.R_form HO_6.out (by omega); (first | cases eo84 | (injection eo84 with ea_ en_ ec_; (first | subst ea_ | (injection ea_ with ea_; subst ea_)); subst ec_; clear en_)); have GB84 := Aside0.mk gb84; have GG84 := Aside0.mk HG84; clear gb84 gl84 HG84; obtain ⟨hx84_0, hf84_0⟩ := Kd.R_celln false HO_6.out (x10_63 : Int) p84 q84; replace p84 := eq_true p84; replace q84 := eq_true q84; obtain ⟨hy85_, hz85_⟩ := Kd.R_celln false HO_6.out (x10_63 : Int) (of_decide_eq_true (by first | (with_reducible assumption) | assumption)) (of_decide_eq_true (by first | (with_reducible assumption) | assumption)); have HP85 := Kd.R_putg HO_6.out (x10_63 : Int) true) | ((with_reducible refine gate_store (t := 4) (p := 171) rfl ?_); refine store_event (t := 4) (p := 171) (v := ?vo_w86) (w1 := (wc.setCell ⟨go84, (x10_63 : Int).toNat, none⟩ (.bool true))) ?hg ?ho ?hn ?hr ?_; (case ho => rfl); (case hg => rfl); (case hn => rfl); (case hr => first | (go_simp; done) | (go_simp; rfl)); intro w86 hw; have hg : wc.grownBy w86 (some go84) := (by rw [hw]; exact HP85.2); have hp_ : Kd.R Kd.bool 4 w86 w.heap.size (fun k_ => some k_ ≠ (v285 : Value).ownBlock) (.slice (some ⟨go84, 0, none⟩) x6_2.length co84) y308 := (by rw [hw, Ny308.out]; exact HP85.1); clear HP85; have n0_ := Aside0.mk (Kd.R_over' (v := (.slice (some ⟨go84, 0, none⟩) x6_2.length co84)) (by (with_reducible repeat (first | apply Kd.R_alloc | apply Kd.R_drewN | apply Kd.R_drew)); exact HO_3.out) (Kd.R_typed HO_6.out) (by decide) hg); have n1_ := Aside0.mk (Kd.R_over' (v := (.slice (some ⟨go84, 0, none⟩) x6_2.length co84)) (by (with_reducible repeat (first | apply Kd.R_alloc | apply Kd.R_drewN | apply Kd.R_drew)); exact HO_4.out) (Kd.R_typed HO_6.out) (by decide) hg); have n2_ := Aside0.mk (Kd.R_after (v := (.slice (some ⟨go84, 0, none⟩) x6_2.length co84)) (v1 := (.slice (some ⟨go84, 0, none⟩) x6_2.length co84)) (ok := (fun _ => True)) (by (with_reducible repeat (first | apply Kd.R_alloc | apply Kd.R_drewN | apply Kd.R_drew)); exact Kd.R_mono HO_5.out (fun _ hk => ⟨trivial, hk⟩)) hg (.inl rfl)); have n3_ := Aside0.mk (hp_); have n4_ := Aside0.mk ((by rw [hw]; exact below_set (HB.out) GB84.out : Below w.heap.size w w86)); clear HO_3; clear HO_4; clear HO_5; clear HO_6; clear HB; have HO_3 := n0_; have HO_4 := n1_; have HO_5 := n2_; have HO_6 := n3_; have HB := n4_; clear n0_ n1_ n2_ n3_ n4_; clear hg hw hp_))
                          go_roundg kj73
                          case measure => have := HK1.out; have := HK2.out; have := HJ46.out; have := HJ56.out; have := HJ63.out; have := HJ68.out; have := HJ73.out; omega
                          case rel => exact ⟨(y308), (x10_63), (by first | rfl | (simp; done) | (simp [*]; done)), H', ⟨by have := HK1.out; have := HK2.out; have := HJ46.out; have := HJ56.out; have := HJ63.out; have := HJ68.out; have := HJ73.out; omega⟩, ⟨by (with_reducible repeat (first | apply Kd.R_alloc | apply Kd.R_drewN | apply Kd.R_drew)); exact HO_3.out⟩, ⟨by (with_reducible repeat (first | apply Kd.R_alloc | apply Kd.R_drewN | apply Kd.R_drew)); exact HO_4.out⟩, ⟨by (with_reducible repeat (first | apply Kd.R_alloc | apply Kd.R_drewN | apply Kd.R_drew)); exact Kd.R_mono HO_5.out (fun _ hk => hk.2)⟩, ⟨by (with_reducible repeat (first | apply Kd.R_alloc | apply Kd.R_drewN | apply Kd.R_drew)); exact HO_6.out⟩, ⟨belowA⟩⟩
                         rw [if_neg c83] at H
                         exact absurd H (by simp)
                        rw [if_neg c82] at H
                        exact absurd H (by simp)
                       rw [if_neg c81] at H
                       have c81b0 : (decide (x10_63 > x10_56)) = false := by simpa using c81
                       clear c81; replace H := Option.bind_eq_some_iff.mp H; obtain ⟨t309, A870, H⟩ := H
                       try dsimp only at H
                       have A87 := Aside0.mk A870; clear A870
                       by_cases c88 : t309 = true
                       ·subst c88
                        have H1 : (impl_SentenceCuts.l1 kj73 a0 t278 t281 t284 x6_2 x10_63) = some r := by rw [if_pos rfl] at H; exact H
                        clear H; have H := H1; clear H1; have H' := Aside0.mk H; clear H
                        have p306 : 0 ≤ (x14_68 : Int) := of_decide_eq_true (by first | (with_reducible assumption) | assumption)
                        have q306 : x14_68 < (t281.length : Int) := of_decide_eq_true (by first | (with_reducible assumption) | assumption)
                        obtain ⟨ad306, e306, hx306_0⟩ := Kd.at_int (Kd.R_reads' HO_4.out).2.2 x14_68 p306 q306
                        obtain rfl : ad295 = ad306 := (by injection e306)
                        replace p306 := eq_true p306; replace q306 := eq_true q306
                        go_wp2_with (first | ((with_reducible refine gate_callee (f := 119) rfl ?_); refine goesL_ (some 153) rfl rfl Tryd.func119 (by kernel_rfl) rfl #[.int .i64 (rd t281 x14_68)] rfl (by (try simp only [List.map_toArray, List.map_cons, List.map_nil]); first | done | rfl) ?_; (with_reducible refine (impl_Category.calls (rd t281 x14_68) t307 _ A79.out).mono ?_); rintro e w' ⟨rfl, ⟨nd, rfl⟩⟩; refine ⟨_, rfl, ?_⟩) | (go_at_call 120; (with_reducible refine (impl_isLetter.calls (rd t281 x14_68) true _ A87.out).mono ?_); rintro e w' ⟨rfl, ⟨nd, rfl⟩⟩))
                        go_roundg kj73
                        case measure => have := HK1.out; have := HK2.out; have := HJ46.out; have := HJ56.out; have := HJ63.out; have := HJ68.out; have := HJ73.out; omega
                        case rel => exact ⟨(x6_2), (x10_63), (by first | rfl | (simp; done) | (simp [*]; done)), H', ⟨by have := HK1.out; have := HK2.out; have := HJ46.out; have := HJ56.out; have := HJ63.out; have := HJ68.out; have := HJ73.out; omega⟩, ⟨by (with_reducible repeat (first | apply Kd.R_alloc | apply Kd.R_drewN | apply Kd.R_drew)); exact HO_3.out⟩, ⟨by (with_reducible repeat (first | apply Kd.R_alloc | apply Kd.R_drewN | apply Kd.R_drew)); exact HO_4.out⟩, ⟨by (with_reducible repeat (first | apply Kd.R_alloc | apply Kd.R_drewN | apply Kd.R_drew)); exact HO_5.out⟩, ⟨by (with_reducible repeat (first | apply Kd.R_alloc | apply Kd.R_drewN | apply Kd.R_drew)); exact HO_6.out⟩, ⟨belowA⟩⟩
                       replace c88 := Bool.eq_false_iff.mpr c88; subst c88
                       have H1 : ((impl_isDigit.f (rd t281 x14_68)).bind fun t310 => (if t310 = true then (impl_SentenceCuts.l1 kj73 a0 t278 t281 t284 x6_2 x10_63) else (if 0 ≤ x10_63 then (if x10_63 < (x6_2.length : Int) then (impl_SentenceCuts.l1 kj73 a0 t278 t281 t284 (x6_2.set (x10_63 : Int).toNat true) x10_63) else (none)) else (none)))) = some r := by rw [if_neg (show ¬ (false = true) by decide)] at H; exact H
                       clear H; have H := H1; clear H1; replace H := Option.bind_eq_some_iff.mp H; obtain ⟨t310, A890, H⟩ := H
                       try dsimp only at H
                       have A89 := Aside0.mk A890; clear A890
                       by_cases c90 : t310 = true
                       ·subst c90
                        have H1 : (impl_SentenceCuts.l1 kj73 a0 t278 t281 t284 x6_2 x10_63) = some r := by rw [if_pos rfl] at H; exact H
                        clear H; have H := H1; clear H1; have H' := Aside0.mk H; clear H
                        have p306 : 0 ≤ (x14_68 : Int) := of_decide_eq_true (by first | (with_reducible assumption) | assumption)
                        have q306 : x14_68 < (t281.length : Int) := of_decide_eq_true (by first | (with_reducible assumption) | assumption)
                        obtain ⟨ad306, e306, hx306_0⟩ := Kd.at_int (Kd.R_reads' HO_4.out).2.2 x14_68 p306 q306
                        obtain rfl : ad295 = ad306 := (by injection e306)
                        replace p306 := eq_true p306; replace q306 := eq_true q306
                        go_wp2_with (first | ((with_reducible refine gate_callee (f := 119) rfl ?_); refine goesL_ (some 153) rfl rfl Tryd.func119 (by kernel_rfl) rfl #[.int .i64 (rd t281 x14_68)] rfl (by (try simp only [List.map_toArray, List.map_cons, List.map_nil]); first | done | rfl) ?_; (with_reducible refine (impl_Category.calls (rd t281 x14_68) t307 _ A79.out).mono ?_); rintro e w' ⟨rfl, ⟨nd, rfl⟩⟩; refine ⟨_, rfl, ?_⟩) | (go_at_call 120; (with_reducible refine (impl_isLetter.calls (rd t281 x14_68) false _ A87.out).mono ?_); rintro e w' ⟨rfl, ⟨nd, rfl⟩⟩) | (go_at_call 121; (with_reducible refine (impl_isDigit.calls (rd t281 x14_68) true _ A89.out).mono ?_); rintro e w' ⟨rfl, ⟨nd, rfl⟩⟩))
                        go_roundg kj73
                        case measure => have := HK1.out; have := HK2.out; have := HJ46.out; have := HJ56.out; have := HJ63.out; have := HJ68.out; have := HJ73.out; omega
                        case rel => exact ⟨(x6_2), (x10_63), (by first | rfl | (simp; done) | (simp [*]; done)), H', ⟨by have := HK1.out; have := HK2.out; have := HJ46.out; have := HJ56.out; have := HJ63.out; have := HJ68.out; have := HJ73.out; omega⟩, ⟨by (with_reducible repeat (first | apply Kd.R_alloc | apply Kd.R_drewN | apply Kd.R_drew)); exact HO_3.out⟩, ⟨by (with_reducible repeat (first | apply Kd.R_alloc | apply Kd.R_drewN | apply Kd.R_drew)); exact HO_4.out⟩, ⟨by (with_reducible repeat (first | apply Kd.R_alloc | apply Kd.R_drewN | apply Kd.R_drew)); exact HO_5.out⟩, ⟨by (with_reducible repeat (first | apply Kd.R_alloc | apply Kd.R_drewN | apply Kd.R_drew)); exact HO_6.out⟩, ⟨belowA⟩⟩
                       replace c90 := Bool.eq_false_iff.mpr c90; subst c90
                       have H1 : (if 0 ≤ x10_63 then (if x10_63 < (x6_2.length : Int) then (impl_SentenceCuts.l1 kj73 a0 t278 t281 t284 (x6_2.set (x10_63 : Int).toNat true) x10_63) else (none)) else (none)) = some r := by rw [if_neg (show ¬ (false = true) by decide)] at H; exact H
                       clear H; have H := H1; clear H1
                       by_cases c91 : 0 ≤ x10_63
                       ·rw [if_pos c91] at H
                        have c91b0 : decide (0 ≤ x10_63) = true := decide_eq_true c91; clear c91
                        by_cases c92 : x10_63 < (x6_2.length : Int)
                        ·rw [if_pos c92] at H
                         have c92b0 : decide (x10_63 < (x6_2.length : Int)) = true := decide_eq_true c92; clear c92; obtain ⟨y311, hy311⟩ : ∃ y_ : List Bool, y_ = (x6_2.set (x10_63 : Int).toNat true) := ⟨_, rfl⟩
                         replace H : (impl_SentenceCuts.l1 kj73 a0 t278 t281 t284 y311 x10_63) = some r := by first | (rw [hy311]; with_reducible exact H) | (have H2_ := (Option.bind_some _ _).symm.trans H; rw [hy311]; with_reducible exact H2_) | (have H2_ := (Option.bind_some _ _).symm.trans H; with_reducible exact H2_) | with_reducible exact H | (rw [hy311]; exact H) | exact H
                         have Ny311 := Aside0.mk hy311; clear hy311; have H' := Aside0.mk H; clear H
                         have p306 : 0 ≤ (x14_68 : Int) := of_decide_eq_true (by first | (with_reducible assumption) | assumption)
                         have q306 : x14_68 < (t281.length : Int) := of_decide_eq_true (by first | (with_reducible assumption) | assumption)
                         obtain ⟨ad306, e306, hx306_0⟩ := Kd.at_int (Kd.R_reads' HO_4.out).2.2 x14_68 p306 q306
                         obtain rfl : ad295 = ad306 := (by injection e306)
                         replace p306 := eq_true p306; replace q306 := eq_true q306
                         go_wp2_with (first | ((with_reducible refine gate_callee (f := 119) rfl ?_); refine goesL_ (some 153) rfl rfl Tryd.func119 (by kernel_rfl) rfl #[.int .i64 (rd t281 x14_68)] rfl (by (try simp only [List.map_toArray, List.map_cons, List.map_nil]); first | done | rfl) ?_; (with_reducible refine (impl_Category.calls (rd t281 x14_68) t307 _ A79.out).mono ?_); rintro e w' ⟨rfl, ⟨nd, rfl⟩⟩; refine ⟨_, rfl, ?_⟩; (try (rw [drewN_self wc]; generalize hq_ : World.drewN wc _ = wc; have n0_ : Aside0 (Kd.R k121 121 wc w.heap.size (fun _ => True) (.slice Ao11 t278.length co11) t278) := ⟨by rw [← hq_]; exact (by (with_reducible repeat (first | apply Kd.R_alloc | apply Kd.R_drewN | apply Kd.R_drew)); exact HO_3.out)⟩; have n1_ : Aside0 (Kd.R (Kd.int .i64) 2 wc w.heap.size (fun _ => True) (.slice (some ad295) t281.length co13) t281) := ⟨by rw [← hq_]; exact (by (with_reducible repeat (first | apply Kd.R_alloc | apply Kd.R_drewN | apply Kd.R_drew)); exact HO_4.out)⟩; have n2_ : Aside0 (Kd.R Kd.bool 4 wc w.heap.size (fun k_ => some k_ ≠ (v288 : Value).ownBlock) v285 t284) := ⟨by rw [← hq_]; exact (by (with_reducible repeat (first | apply Kd.R_alloc | apply Kd.R_drewN | apply Kd.R_drew)); exact HO_5.out)⟩; have n3_ : Aside0 (Kd.R Kd.bool 4 wc w.heap.size (fun k_ => some k_ ≠ (v285 : Value).ownBlock) v288 x6_2) := ⟨by rw [← hq_]; exact (by (with_reducible repeat (first | apply Kd.R_alloc | apply Kd.R_drewN | apply Kd.R_drew)); exact HO_6.out)⟩; have n4_ : Aside0 (Below w.heap.size w wc) := ⟨by rw [← hq_]; exact (belowA)⟩; clear HO_3 HO_4 HO_5 HO_6 HB hq_; have HO_3 := n0_; have HO_4 := n1_; have HO_5 := n2_; have HO_6 := n3_; have HB := n4_; clear n0_ n1_ n2_ n3_ n4_))) | (go_at_call 120; (with_reducible refine (impl_isLetter.calls (rd t281 x14_68) false _ A87.out).mono ?_); rintro e w' ⟨rfl, ⟨nd, rfl⟩⟩; (try (rw [drewN_self wc]; generalize hq_ : World.drewN wc _ = wc; have n0_ : Aside0 (Kd.R k121 121 wc w.heap.size (fun _ => True) (.slice Ao11 t278.length co11) t278) := ⟨by rw [← hq_]; exact (by (with_reducible repeat (first | apply Kd.R_alloc | apply Kd.R_drewN | apply Kd.R_drew)); exact HO_3.out)⟩; have n1_ : Aside0 (Kd.R (Kd.int .i64) 2 wc w.heap.size (fun _ => True) (.slice (some ad295) t281.length co13) t281) := ⟨by rw [← hq_]; exact (by (with_reducible repeat (first | apply Kd.R_alloc | apply Kd.R_drewN | apply Kd.R_drew)); exact HO_4.out)⟩; have n2_ : Aside0 (Kd.R Kd.bool 4 wc w.heap.size (fun k_ => some k_ ≠ (v288 : Value).ownBlock) v285 t284) := ⟨by rw [← hq_]; exact (by (with_reducible repeat (first | apply Kd.R_alloc | apply Kd.R_drewN | apply Kd.R_drew)); exact HO_5.out)⟩; have n3_ : Aside0 (Kd.R Kd.bool 4 wc w.heap.size (fun k_ => some k_ ≠ (v285 : Value).ownBlock) v288 x6_2) := ⟨by rw [← hq_]; exact (by (with_reducible repeat (first | apply Kd.R_alloc | apply Kd.R_drewN | apply Kd.R_drew)); exact HO_6.out)⟩; have n4_ : Aside0 (Below w.heap.size w wc) := ⟨by rw [← hq_]; exact (belowA)⟩; clear HO_3 HO_4 HO_5 HO_6 HB hq_; have HO_3 := n0_; have HO_4 := n1_; have HO_5 := n2_; have HO_6 := n3_; have HB := n4_; clear n0_ n1_ n2_ n3_ n4_))) | (go_at_call 121; (with_reducible refine (impl_isDigit.calls (rd t281 x14_68) false _ A89.out).mono ?_); rintro e w' ⟨rfl, ⟨nd, rfl⟩⟩; (try (rw [drewN_self wc]; generalize hq_ : World.drewN wc _ = wc; have n0_ : Aside0 (Kd.R k121 121 wc w.heap.size (fun _ => True) (.slice Ao11 t278.length co11) t278) := ⟨by rw [← hq_]; exact (by (with_reducible repeat (first | apply Kd.R_alloc | apply Kd.R_drewN | apply Kd.R_drew)); exact HO_3.out)⟩; have n1_ : Aside0 (Kd.R (Kd.int .i64) 2 wc w.heap.size (fun _ => True) (.slice (some ad295) t281.length co13) t281) := ⟨by rw [← hq_]; exact (by (with_reducible repeat (first | apply Kd.R_alloc | apply Kd.R_drewN | apply Kd.R_drew)); exact HO_4.out)⟩; have n2_ : Aside0 (Kd.R Kd.bool 4 wc w.heap.size (fun k_ => some k_ ≠ (v288 : Value).ownBlock) v285 t284) := ⟨by rw [← hq_]; exact (by (with_reducible repeat (first | apply Kd.R_alloc | apply Kd.R_drewN | apply Kd.R_drew)); exact HO_5.out)⟩; have n3_ : Aside0 (Kd.R Kd.bool 4 wc w.heap.size (fun k_ => some k_ ≠ (v285 : Value).ownBlock) v288 x6_2) := ⟨by rw [← hq_]; exact (by (with_reducible repeat (first | apply Kd.R_alloc | apply Kd.R_drewN | apply Kd.R_drew)); exact HO_6.out)⟩; have n4_ : Aside0 (Below w.heap.size w wc) := ⟨by rw [← hq_]; exact (belowA)⟩; clear HO_3 HO_4 HO_5 HO_6 HB hq_; have HO_3 := n0_; have HO_4 := n1_; have HO_5 := n2_; have HO_6 := n3_; have HB := n4_; clear n0_ n1_ n2_ n3_ n4_)); have p93 : 0 ≤ (x10_63 : Int) := of_decide_eq_true (by first | (with_reducible assumption) | assumption); have q93 : (x10_63 : Int) < ((x6_2.length : Int) : Int) := of_decide_eq_true (by first | (with_reducible assumption) | assumption); obtain ⟨go93, co93, eo93, gb93, gl93, cl93, HG93⟩ := Kd.R_form HO_6.out (by omega); (first | cases eo93 | (injection eo93 with ea_ en_ ec_; (first | subst ea_ | (injection ea_ with ea_; subst ea_)); subst ec_; clear en_)); have GB93 := Aside0.mk gb93; have GG93 := Aside0.mk HG93; clear gb93 gl93 HG93; obtain ⟨hx93_0, hf93_0⟩ := Kd.R_celln false HO_6.out (x10_63 : Int) p93 q93; replace p93 := eq_true p93; replace q93 := eq_true q93; obtain ⟨hy94_, hz94_⟩ := Kd.R_celln false HO_6.out (x10_63 : Int) (of_decide_eq_true (by first | (with_reducible assumption) | assumption)) (of_decide_eq_true (by first | (with_reducible assumption) | assumption)); have HP94 := Kd.R_putg HO_6.out (x10_63 : Int) true) | ((with_reducible refine gate_store (t := 4) (p := 171) rfl ?_); refine store_event (t := 4) (p := 171) (v := ?vo_w95) (w1 := (wc.setCell ⟨go93, (x10_63 : Int).toNat, none⟩ (.bool true))) ?hg ?ho ?hn ?hr ?_; (case ho => rfl); (case hg => rfl); (case hn => rfl); (case hr => first | (go_simp; done) | (go_simp; rfl)); intro w95 hw; have hg : wc.grownBy w95 (some go93) := (by rw [hw]; exact HP94.2); have hp_ : Kd.R Kd.bool 4 w95 w.heap.size (fun k_ => some k_ ≠ (v285 : Value).ownBlock) (.slice (some ⟨go93, 0, none⟩) x6_2.length co93) y311 := (by rw [hw, Ny311.out]; exact HP94.1); clear HP94; have n0_ := Aside0.mk (Kd.R_over' (v := (.slice (some ⟨go93, 0, none⟩) x6_2.length co93)) (by (with_reducible repeat (first | apply Kd.R_alloc | apply Kd.R_drewN | apply Kd.R_drew)); exact HO_3.out) (Kd.R_typed HO_6.out) (by decide) hg); have n1_ := Aside0.mk (Kd.R_over' (v := (.slice (some ⟨go93, 0, none⟩) x6_2.length co93)) (by (with_reducible repeat (first | apply Kd.R_alloc | apply Kd.R_drewN | apply Kd.R_drew)); exact HO_4.out) (Kd.R_typed HO_6.out) (by decide) hg); have n2_ := Aside0.mk (Kd.R_after (v := (.slice (some ⟨go93, 0, none⟩) x6_2.length co93)) (v1 := (.slice (some ⟨go93, 0, none⟩) x6_2.length co93)) (ok := (fun _ => True)) (by (with_reducible repeat (first | apply Kd.R_alloc | apply Kd.R_drewN | apply Kd.R_drew)); exact Kd.R_mono HO_5.out (fun _ hk => ⟨trivial, hk⟩)) hg (.inl rfl)); have n3_ := Aside0.mk (hp_); have n4_ := Aside0.mk ((by rw [hw]; exact below_set (HB.out) GB93.out : Below w.heap.size w w95)); clear HO_3; clear HO_4; clear HO_5; clear HO_6; clear HB; have HO_3 := n0_; have HO_4 := n1_; have HO_5 := n2_; have HO_6 := n3_; have HB := n4_; clear n0_ n1_ n2_ n3_ n4_; clear hg hw hp_))
                         go_roundg kj73
                         case measure => have := HK1.out; have := HK2.out; have := HJ46.out; have := HJ56.out; have := HJ63.out; have := HJ68.out; have := HJ73.out; omega
                         case rel => exact ⟨(y311), (x10_63), (by first | rfl | (simp; done) | (simp [*]; done)), H', ⟨by have := HK1.out; have := HK2.out; have := HJ46.out; have := HJ56.out; have := HJ63.out; have := HJ68.out; have := HJ73.out; omega⟩, ⟨by (with_reducible repeat (first | apply Kd.R_alloc | apply Kd.R_drewN | apply Kd.R_drew)); exact HO_3.out⟩, ⟨by (with_reducible repeat (first | apply Kd.R_alloc | apply Kd.R_drewN | apply Kd.R_drew)); exact HO_4.out⟩, ⟨by (with_reducible repeat (first | apply Kd.R_alloc | apply Kd.R_drewN | apply Kd.R_drew)); exact Kd.R_mono HO_5.out (fun _ hk => hk.2)⟩, ⟨by (with_reducible repeat (first | apply Kd.R_alloc | apply Kd.R_drewN | apply Kd.R_drew)); exact HO_6.out⟩, ⟨belowA⟩⟩
                        rw [if_neg c92] at H
                        exact absurd H (by simp)
                       rw [if_neg c91] at H
                       exact absurd H (by simp)
                      rw [if_neg c78] at H
                      exact absurd H (by simp)
                     rw [if_neg c77] at H
                     exact absurd H (by simp)
                    replace c76 := Bool.eq_false_iff.mpr c76; subst c76
                    have H1 : (if false = true then (impl_SentenceCuts.l1 kj73 a0 t278 t281 t284 x6_2 x10_63) else (if 0 ≤ x10_63 then (if x10_63 < (x6_2.length : Int) then (impl_SentenceCuts.l1 kj73 a0 t278 t281 t284 (x6_2.set (x10_63 : Int).toNat true) x10_63) else (none)) else (none))) = some r := by rw [if_neg (show ¬ (false = true) by decide)] at H; exact H
                    clear H; have H := H1; clear H1
                    by_cases c96 : false = true
                    ·exact absurd c96 (by decide)
                    clear c96
                    have H1 : (if 0 ≤ x10_63 then (if x10_63 < (x6_2.length : Int) then (impl_SentenceCuts.l1 kj73 a0 t278 t281 t284 (x6_2.set (x10_63 : Int).toNat true) x10_63) else (none)) else (none)) = some r := by rw [if_neg (show ¬ (false = true) by decide)] at H; exact H
                    clear H; have H := H1; clear H1
                    by_cases c97 : 0 ≤ x10_63
                    ·rw [if_pos c97] at H
                     have c97b0 : decide (0 ≤ x10_63) = true := decide_eq_true c97; clear c97
                     by_cases c98 : x10_63 < (x6_2.length : Int)
                     ·rw [if_pos c98] at H
                      have c98b0 : decide (x10_63 < (x6_2.length : Int)) = true := decide_eq_true c98; clear c98; obtain ⟨y312, hy312⟩ : ∃ y_ : List Bool, y_ = (x6_2.set (x10_63 : Int).toNat true) := ⟨_, rfl⟩
                      replace H : (impl_SentenceCuts.l1 kj73 a0 t278 t281 t284 y312 x10_63) = some r := by first | (rw [hy312]; with_reducible exact H) | (have H2_ := (Option.bind_some _ _).symm.trans H; rw [hy312]; with_reducible exact H2_) | (have H2_ := (Option.bind_some _ _).symm.trans H; with_reducible exact H2_) | with_reducible exact H | (rw [hy312]; exact H) | exact H
                      have Ny312 := Aside0.mk hy312; clear hy312; have H' := Aside0.mk H; clear H
                      have p99 : 0 ≤ (x10_63 : Int) := of_decide_eq_true (by first | (with_reducible assumption) | assumption)
                      have q99 : (x10_63 : Int) < ((x6_2.length : Int) : Int) := of_decide_eq_true (by first | (with_reducible assumption) | assumption)
                      obtain ⟨go99, co99, eo99, gb99, gl99, cl99, HG99⟩ := Kd.R_form HO_6.out (by omega)
                      (first | cases eo99 | (injection eo99 with ea_ en_ ec_; (first | subst ea_ | (injection ea_ with ea_; subst ea_)); subst ec_; clear en_))
                      have GB99 := Aside0.mk gb99; have GG99 := Aside0.mk HG99; clear gb99 gl99 HG99; obtain ⟨hx99_0, hf99_0⟩ := Kd.R_celln false HO_6.out (x10_63 : Int) p99 q99; replace p99 := eq_true p99; replace q99 := eq_true q99; have HP100 := Kd.R_putg HO_6.out (x10_63 : Int) true
                      go_wp2_with (first | ((with_reducible refine gate_store (t := 4) (p := 171) rfl ?_); refine store_event (t := 4) (p := 171) (v := ?vo_w101) (w1 := (wc.setCell ⟨go99, (x10_63 : Int).toNat, none⟩ (.bool true))) ?hg ?ho ?hn ?hr ?_; (case ho => rfl); (case hg => rfl); (case hn => rfl); (case hr => first | (go_simp; done) | (go_simp; rfl)); intro w101 hw; have hg : wc.grownBy w101 (some go99) := (by rw [hw]; exact HP100.2); have hp_ : Kd.R Kd.bool 4 w101 w.heap.size (fun k_ => some k_ ≠ (v285 : Value).ownBlock) (.slice (some ⟨go99, 0, none⟩) x6_2.length co99) y312 := (by rw [hw, Ny312.out]; exact HP100.1); clear HP100; have n0_ := Aside0.mk (Kd.R_over' (v := (.slice (some ⟨go99, 0, none⟩) x6_2.length co99)) (by (with_reducible repeat (first | apply Kd.R_alloc | apply Kd.R_drewN | apply Kd.R_drew)); exact HO_3.out) (Kd.R_typed HO_6.out) (by decide) hg); have n1_ := Aside0.mk (Kd.R_over' (v := (.slice (some ⟨go99, 0, none⟩) x6_2.length co99)) (by (with_reducible repeat (first | apply Kd.R_alloc | apply Kd.R_drewN | apply Kd.R_drew)); exact HO_4.out) (Kd.R_typed HO_6.out) (by decide) hg); have n2_ := Aside0.mk (Kd.R_after (v := (.slice (some ⟨go99, 0, none⟩) x6_2.length co99)) (v1 := (.slice (some ⟨go99, 0, none⟩) x6_2.length co99)) (ok := (fun _ => True)) (by (with_reducible repeat (first | apply Kd.R_alloc | apply Kd.R_drewN | apply Kd.R_drew)); exact Kd.R_mono HO_5.out (fun _ hk => ⟨trivial, hk⟩)) hg (.inl rfl)); have n3_ := Aside0.mk (hp_); have n4_ := Aside0.mk ((by rw [hw]; exact below_set (HB.out) GB99.out : Below w.heap.size w w101)); clear HO_3; clear HO_4; clear HO_5; clear HO_6; clear HB; have HO_3 := n0_; have HO_4 := n1_; have HO_5 := n2_; have HO_6 := n3_; have HB := n4_; clear n0_ n1_ n2_ n3_ n4_; clear hg hw hp_))
                      go_roundg kj73
                      case measure => have := HK1.out; have := HK2.out; have := HJ46.out; have := HJ56.out; have := HJ63.out; have := HJ68.out; have := HJ73.out; omega
                      case rel => exact ⟨(y312), (x10_63), (by first | rfl | (simp; done) | (simp [*]; done)), H', ⟨by have := HK1.out; have := HK2.out; have := HJ46.out; have := HJ56.out; have := HJ63.out; have := HJ68.out; have := HJ73.out; omega⟩, ⟨by (with_reducible repeat (first | apply Kd.R_alloc | apply Kd.R_drewN | apply Kd.R_drew)); exact HO_3.out⟩, ⟨by (with_reducible repeat (first | apply Kd.R_alloc | apply Kd.R_drewN | apply Kd.R_drew)); exact HO_4.out⟩, ⟨by (with_reducible repeat (first | apply Kd.R_alloc | apply Kd.R_drewN | apply Kd.R_drew)); exact Kd.R_mono HO_5.out (fun _ hk => hk.2)⟩, ⟨by (with_reducible repeat (first | apply Kd.R_alloc | apply Kd.R_drewN | apply Kd.R_drew)); exact HO_6.out⟩, ⟨belowA⟩⟩
                     rw [if_neg c98] at H
                     exact absurd H (by simp)
                    rw [if_neg c97] at H
                    exact absurd H (by simp)
         replace c46 := Bool.eq_false_iff.mpr c46; subst c46
         have H1 : (impl_SentenceCuts.l1 k2 a0 t278 t281 t284 x6_2 (wrap64 (x9_2 + 1))) = some r := by rw [if_neg (show ¬ (false = true) by decide)] at H; exact H
         clear H; have H := H1; clear H1; have H' := Aside0.mk H; clear H
         have p295 : 0 ≤ (x9_2 : Int) := of_decide_eq_true (by first | (with_reducible assumption) | assumption)
         have q295 : x9_2 < (t281.length : Int) := of_decide_eq_true (by first | (with_reducible assumption) | assumption)
         obtain ⟨ad295, e295, hx295_0⟩ := Kd.at_int (Kd.R_reads' HO_4.out).2.2 x9_2 p295 q295; cases e295; replace p295 := eq_true p295; replace q295 := eq_true q295
         go_wp2_with (first | ((with_reducible refine gate_callee (f := 116) rfl ?_); refine goesL_ (some 71) rfl rfl Tryd.func116 (by kernel_rfl) rfl #[.int .i64 (rd t281 x9_2), .string (⟨#[46, 33, 63]⟩ : ByteArray)] rfl (by (try simp only [List.map_toArray, List.map_cons, List.map_nil]); first | done | rfl) ?_; (with_reducible refine (impl_one.calls (rd t281 x9_2) (⟨#[46, 33, 63]⟩ : ByteArray) false _ A45.out).mono ?_); rintro e w102 ⟨rfl, hb⟩; refine ⟨_, rfl, ?_⟩; have n0_ := Aside0.mk (Kd.R_below (by (with_reducible repeat (first | apply Kd.R_alloc | apply Kd.R_drewN | apply Kd.R_drew)); exact HO_3.out) hb); have n1_ := Aside0.mk (Kd.R_below (by (with_reducible repeat (first | apply Kd.R_alloc | apply Kd.R_drewN | apply Kd.R_drew)); exact HO_4.out) hb); have n2_ := Aside0.mk (Kd.R_below (by (with_reducible repeat (first | apply Kd.R_alloc | apply Kd.R_drewN | apply Kd.R_drew)); exact HO_5.out) hb); have n3_ := Aside0.mk (Kd.R_below (by (with_reducible repeat (first | apply Kd.R_alloc | apply Kd.R_drewN | apply Kd.R_drew)); exact HO_6.out) hb); have n4_ := Aside0.mk (below_step (belowA) hb); clear HO_3; clear HO_4; clear HO_5; clear HO_6; clear HB; have HO_3 := n0_; have HO_4 := n1_; have HO_5 := n2_; have HO_6 := n3_; have HB := n4_; clear n0_ n1_ n2_ n3_ n4_; (try clear hb); (try clear hb2); (try clear hk); (try clear hi)))
         go_roundg k2
         case measure => have := HK1.out; have := HK2.out; omega
         case rel => exact ⟨(x6_2), (wrap64 (x9_2 + 1)), (by first | rfl | (simp; done) | (simp [*]; done)), H', ⟨by have := HK1.out; have := HK2.out; omega⟩, ⟨by (with_reducible repeat (first | apply Kd.R_alloc | apply Kd.R_drewN | apply Kd.R_drew)); exact HO_3.out⟩, ⟨by (with_reducible repeat (first | apply Kd.R_alloc | apply Kd.R_drewN | apply Kd.R_drew)); exact HO_4.out⟩, ⟨by (with_reducible repeat (first | apply Kd.R_alloc | apply Kd.R_drewN | apply Kd.R_drew)); exact HO_5.out⟩, ⟨by (with_reducible repeat (first | apply Kd.R_alloc | apply Kd.R_drewN | apply Kd.R_drew)); exact HO_6.out⟩, ⟨belowA⟩⟩
        rw [if_neg c44] at H
        exact absurd H (by simp)
       rw [if_neg c43] at H; have c43b0 : decide (x9_2 < (t281.length : Int)) = false := decide_eq_false c43; clear c43; have H' := Aside0.mk H; clear H
       go_wp2
       go_loopg [175] k2 (fun kq v175 w' => ∃ (x6_3 : List Bool) (x175_3 : Int), v175 = .int .i64 x175_3 ∧ Aside0 (impl_SentenceCuts.l6 kq a0 t278 t284 x6_3 (t281.length : Int) x175_3 = some r) ∧ Aside0 (kq ≤ k2) ∧ Aside0 (Kd.R k121 121 w' w.heap.size (fun _ => True) (.slice Ao11 t278.length co11) t278) ∧ Aside0 (Kd.R Kd.bool 4 w' w.heap.size (fun k_ => some k_ ≠ (v288 : Value).ownBlock) v285 t284) ∧ Aside0 (Kd.R Kd.bool 4 w' w.heap.size (fun k_ => some k_ ≠ (v285 : Value).ownBlock) v288 x6_3) ∧ Aside0 (Below w.heap.size w w'))
       case atStart => exact ⟨(x6_2), (0), (by first | rfl | (simp; done) | (simp [*]; done)), H', ⟨Nat.le_refl _⟩, ⟨by (with_reducible repeat (first | apply Kd.R_alloc | apply Kd.R_drewN | apply Kd.R_drew)); exact HO_3.out⟩, ⟨by (with_reducible repeat (first | apply Kd.R_alloc | apply Kd.R_drewN | apply Kd.R_drew)); exact HO_5.out⟩, ⟨by (with_reducible repeat (first | apply Kd.R_alloc | apply Kd.R_drewN | apply Kd.R_drew)); exact HO_6.out⟩, ⟨belowA⟩⟩
       case round =>
        clear H'
        try clear c1; try clear c2; try clear p2; try clear q2; try clear hx2; try clear hf2; try clear c3; try clear p3; try clear q3; try clear hx3; try clear hf3; try clear c4; try clear p4; try clear q4; try clear hx4; try clear hf4; try clear c5; try clear c6; try clear p6; try clear c7; try clear c8; try clear c8b0; try clear c8b1; try clear p8; try clear q8; try clear hx8; try clear hf8; try clear c9; try clear c9b0; try clear c9b1; try clear p9; try clear q9; try clear hx9; try clear hf9; try clear c11; try clear c17; try clear c17b0; try clear c18; try clear c18b0; try clear c19; try clear c19b0; try clear c20; try clear c20b0; try clear c20b1; try clear c22; try clear c22b0; try clear c23; try clear c23b0; try clear p24; try clear q24; try clear hx24; try clear hf24; try clear c27; try clear c27b0; try clear c27b1; try clear c28; try clear c28b0; try clear c28b1; try clear p29; try clear q29; try clear hx29; try clear c30; try clear c30b0; try clear p30; try clear q30; try clear hx30; try clear c31; try clear c31b0; try clear p32; try clear q32; try clear hx32; try clear hf32; try clear c34; try clear c36; try clear c36b0; try clear c37; try clear c37b0; try clear c38; try clear c38b0; try clear c38b1; try clear c39; try clear c39b0; try clear p40; try clear q40; try clear hx40; try clear hf40; try clear c43; try clear c43b0; try clear c44; try clear c44b0; try clear c46; try clear c49; try clear c49b0; try clear c50; try clear c50b0; try clear c52; try clear c53; try clear c58; try clear c58b0; try clear c59; try clear c59b0; try clear c61; try clear p64; try clear c65; try clear c65b0; try clear c66; try clear c66b0; try clear c68; try clear c70; try clear c70b0; try clear c71; try clear c71b0; try clear c73; try clear c75; try clear c76; try clear c77; try clear c77b0; try clear c78; try clear c78b0; try clear c80; try clear c80b0; try clear c80b1; try clear c81; try clear c81b0; try clear c82; try clear c82b0; try clear c83; try clear c83b0; try clear p84; try clear q84; try clear hx84; try clear hf84; try clear c88; try clear c90; try clear c91; try clear c91b0; try clear c92; try clear c92b0; try clear p93; try clear q93; try clear hx93; try clear hf93; try clear c96; try clear c97; try clear c97b0; try clear c98; try clear c98b0; try clear p99; try clear q99; try clear hx99; try clear hf99; try clear hx24_0; try clear hx290_0; try clear hx293_0; try clear hx295_0; try clear hx297_0; try clear hx299_0; try clear hx300_0; try clear hx302_0; try clear hx304_0; try clear hx306_0; try clear hx32_0; try clear hx40_0; try clear hx84_0; try clear hx93_0; try clear hx99_0; try clear p2; try clear p24; try clear p29; try clear p290; try clear p293; try clear p295; try clear p297; try clear p299; try clear p3; try clear p30; try clear p300; try clear p302; try clear p304; try clear p306; try clear p32; try clear p4; try clear p40; try clear p6; try clear p64; try clear p84; try clear p93; try clear p99; try clear q2; try clear q24; try clear q29; try clear q290; try clear q293; try clear q295; try clear q297; try clear q299; try clear q3; try clear q30; try clear q300; try clear q302; try clear q304; try clear q306; try clear q32; try clear q4; try clear q40; try clear q84; try clear q93; try clear q99
        obtain ⟨x6_3, x175_3, rfl, HA, HK3, HO_3, HO_5, HO_6, HB⟩ := hrel
        cases gk with
        | zero => exact absurd HA.out (by simp [impl_SentenceCuts.l6])
        | succ k3 =>
         have H := HA.out; clear HA; simp only [impl_SentenceCuts.l6] at H
         by_cases c103 : x175_3 < (t281.length : Int)
         ·rw [if_pos c103] at H
          have c103b0 : decide (x175_3 < (t281.length : Int)) = true := decide_eq_true c103; clear c103
          by_cases c104 : 0 ≤ x175_3
          ·rw [if_pos c104] at H
           have c104b0 : decide (0 ≤ x175_3) = true := decide_eq_true c104; clear c104
           by_cases c105 : x175_3 < (x6_3.length : Int)
           ·rw [if_pos c105] at H
            have c105b0 : decide (x175_3 < (x6_3.length : Int)) = true := decide_eq_true c105; clear c105; obtain ⟨bq106, hbq106⟩ : ∃ b_ : Bool, b_ = (rdOf false x6_3 x175_3) := ⟨_, rfl⟩
            replace H : (if bq106 = true then (if x175_3 < (t284.length : Int) then (impl_SentenceCuts.l6 k3 a0 t278 t284 (x6_3.set (x175_3 : Int).toNat (rdOf false t284 x175_3)) (t281.length : Int) (wrap64 (x175_3 + 1))) else (none)) else (impl_SentenceCuts.l6 k3 a0 t278 t284 (x6_3.set (x175_3 : Int).toNat false) (t281.length : Int) (wrap64 (x175_3 + 1)))) = some r := by rw [← hbq106] at H; exact H
            have Nbq106 := Aside0.mk hbq106; clear hbq106
            by_cases c107 : bq106 = true
            ·subst c107
             have H1 : (if x175_3 < (t284.length : Int) then (impl_SentenceCuts.l6 k3 a0 t278 t284 (x6_3.set (x175_3 : Int).toNat (rdOf false t284 x175_3)) (t281.length : Int) (wrap64 (x175_3 + 1))) else (none)) = some r := by rw [if_pos rfl] at H; exact H
             clear H; have H := H1; clear H1
             by_cases c108 : x175_3 < (t284.length : Int)
             ·rw [if_pos c108] at H
              have c108b0 : decide (x175_3 < (t284.length : Int)) = true := decide_eq_true c108; clear c108; obtain ⟨y315, hy315⟩ : ∃ y_ : List Bool, y_ = (x6_3.set (x175_3 : Int).toNat (rdOf false t284 x175_3)) := ⟨_, rfl⟩
              replace H : (impl_SentenceCuts.l6 k3 a0 t278 t284 y315 (t281.length : Int) (wrap64 (x175_3 + 1))) = some r := by first | (rw [hy315]; with_reducible exact H) | (have H2_ := (Option.bind_some _ _).symm.trans H; rw [hy315]; with_reducible exact H2_) | (have H2_ := (Option.bind_some _ _).symm.trans H; with_reducible exact H2_) | with_reducible exact H | (rw [hy315]; exact H) | exact H
              have Ny315 := Aside0.mk hy315; clear hy315; have H' := Aside0.mk H; clear H; obtain ⟨Ao110, co110, eo110⟩ := Kd.R_slice HO_6.out; subst eo110
              have p313 : 0 ≤ (x175_3 : Int) := of_decide_eq_true (by first | (with_reducible assumption) | assumption)
              have q313 : x175_3 < (x6_3.length : Int) := of_decide_eq_true (by first | (with_reducible assumption) | assumption)
              obtain ⟨ad313, e313, hx313_0⟩ := Kd.at_bool (Kd.R_reads' HO_6.out).2.2 x175_3 p313 q313
              (try rw [← Nbq106.out] at hx313_0)
              cases e313; replace p313 := eq_true p313; replace q313 := eq_true q313; obtain ⟨Ao111, co111, eo111⟩ := Kd.R_slice HO_5.out; subst eo111
              have p314 : 0 ≤ (x175_3 : Int) := of_decide_eq_true (by first | (with_reducible assumption) | assumption)
              have q314 : x175_3 < (t284.length : Int) := of_decide_eq_true (by first | (with_reducible assumption) | assumption)
              obtain ⟨ad314, e314, hx314_0⟩ := Kd.at_bool (Kd.R_reads' HO_5.out).2.2 x175_3 p314 q314
              (try rw [← Nbq106.out] at hx314_0)
              cases e314; replace p314 := eq_true p314; replace q314 := eq_true q314
              have p109 : 0 ≤ (x175_3 : Int) := of_decide_eq_true (by first | (with_reducible assumption) | assumption)
              have q109 : (x175_3 : Int) < ((x6_3.length : Int) : Int) := of_decide_eq_true (by first | (with_reducible assumption) | assumption)
              obtain ⟨go109, co109, eo109, gb109, gl109, cl109, HG109⟩ := Kd.R_form HO_6.out (by omega)
              (first | cases eo109 | (injection eo109 with ea_ en_ ec_; (first | subst ea_ | (injection ea_ with ea_; subst ea_)); subst ec_; clear en_))
              have GB109 := Aside0.mk gb109; have GG109 := Aside0.mk HG109; clear gb109 gl109 HG109
              (first | simp only [add_plain] at hx313_0 | skip)
              obtain ⟨hx109_0, hf109_0⟩ := Kd.R_celln false HO_6.out (x175_3 : Int) p109 q109; replace p109 := eq_true p109; replace q109 := eq_true q109; have HP112 := Kd.R_putg HO_6.out (x175_3 : Int) (rdOf false t284 x175_3)
              go_wp2_with (first | ((with_reducible refine gate_store (t := 4) (p := 190) rfl ?_); refine store_event (t := 4) (p := 190) (v := ?vo_w113) (w1 := (wr.setCell ⟨go109, (x175_3 : Int).toNat, none⟩ (.bool (rdOf false t284 x175_3)))) ?hg ?ho ?hn ?hr ?_; (case ho => rfl); (case hg => rfl); (case hn => rfl); (case hr => first | (go_simp; done) | (go_simp; rfl)); intro w113 hw; have hg : wr.grownBy w113 (some go109) := (by rw [hw]; exact HP112.2); have hp_ : Kd.R Kd.bool 4 w113 w.heap.size (fun k_ => some k_ ≠ (.slice (some ad314) t284.length co111 : Value).ownBlock) (.slice (some ⟨go109, 0, none⟩) x6_3.length co110) y315 := (by rw [hw, Ny315.out]; exact HP112.1); clear HP112; have n0_ := Aside0.mk (Kd.R_over' (v := (.slice (some ⟨go109, 0, none⟩) x6_3.length co110)) (by (with_reducible repeat (first | apply Kd.R_alloc | apply Kd.R_drewN | apply Kd.R_drew)); exact HO_3.out) (Kd.R_typed HO_6.out) (by decide) hg); have n1_ := Aside0.mk (Kd.R_after (v := (.slice (some ⟨go109, 0, none⟩) x6_3.length co110)) (v1 := (.slice (some ⟨go109, 0, none⟩) x6_3.length co110)) (ok := (fun _ => True)) (by (with_reducible repeat (first | apply Kd.R_alloc | apply Kd.R_drewN | apply Kd.R_drew)); exact Kd.R_mono HO_5.out (fun _ hk => ⟨trivial, hk⟩)) hg (.inl rfl)); have n2_ := Aside0.mk (hp_); have n3_ := Aside0.mk ((by rw [hw]; exact below_set (HB.out) GB109.out : Below w.heap.size w w113)); clear HO_3; clear HO_5; clear HO_6; clear HB; have HO_3 := n0_; have HO_5 := n1_; have HO_6 := n2_; have HB := n3_; clear n0_ n1_ n2_ n3_; clear hg hw hp_))
              go_roundg k3
              case measure => have := HK1.out; have := HK2.out; have := HK3.out; omega
              case rel => exact ⟨(y315), (wrap64 (x175_3 + 1)), (by first | rfl | (simp; done) | (simp [*]; done)), H', ⟨by have := HK1.out; have := HK2.out; have := HK3.out; omega⟩, ⟨by (with_reducible repeat (first | apply Kd.R_alloc | apply Kd.R_drewN | apply Kd.R_drew)); exact HO_3.out⟩, ⟨by (with_reducible repeat (first | apply Kd.R_alloc | apply Kd.R_drewN | apply Kd.R_drew)); exact Kd.R_mono HO_5.out (fun _ hk => hk.2)⟩, ⟨by (with_reducible repeat (first | apply Kd.R_alloc | apply Kd.R_drewN | apply Kd.R_drew)); exact HO_6.out⟩, ⟨belowA⟩⟩
             rw [if_neg c108] at H
             exact absurd H (by simp)
            replace c107 := Bool.eq_false_iff.mpr c107; subst c107
            have H1 : (impl_SentenceCuts.l6 k3 a0 t278 t284 (x6_3.set (x175_3 : Int).toNat false) (t281.length : Int) (wrap64 (x175_3 + 1))) = some r := by rw [if_neg (show ¬ (false = true) by decide)] at H; exact H
            clear H; have H := H1; clear H1; obtain ⟨y316, hy316⟩ : ∃ y_ : List Bool, y_ = (x6_3.set (x175_3 : Int).toNat false) := ⟨_, rfl⟩
            replace H : (impl_SentenceCuts.l6 k3 a0 t278 t284 y316 (t281.length : Int) (wrap64 (x175_3 + 1))) = some r := by first | (rw [hy316]; with_reducible exact H) | (have H2_ := (Option.bind_some _ _).symm.trans H; rw [hy316]; with_reducible exact H2_) | (have H2_ := (Option.bind_some _ _).symm.trans H; with_reducible exact H2_) | with_reducible exact H | (rw [hy316]; exact H) | exact H
            have Ny316 := Aside0.mk hy316; clear hy316; have H' := Aside0.mk H; clear H; obtain ⟨Ao115, co115, eo115⟩ := Kd.R_slice HO_6.out; subst eo115
            have p313 : 0 ≤ (x175_3 : Int) := of_decide_eq_true (by first | (with_reducible assumption) | assumption)
            have q313 : x175_3 < (x6_3.length : Int) := of_decide_eq_true (by first | (with_reducible assumption) | assumption)
            obtain ⟨ad313, e313, hx313_0⟩ := Kd.at_bool (Kd.R_reads' HO_6.out).2.2 x175_3 p313 q313
            (try rw [← Nbq106.out] at hx313_0)
            cases e313; replace p313 := eq_true p313; replace q313 := eq_true q313
            have p114 : 0 ≤ (x175_3 : Int) := of_decide_eq_true (by first | (with_reducible assumption) | assumption)
            have q114 : (x175_3 : Int) < ((x6_3.length : Int) : Int) := of_decide_eq_true (by first | (with_reducible assumption) | assumption)
            obtain ⟨go114, co114, eo114, gb114, gl114, cl114, HG114⟩ := Kd.R_form HO_6.out (by omega)
            (first | cases eo114 | (injection eo114 with ea_ en_ ec_; (first | subst ea_ | (injection ea_ with ea_; subst ea_)); subst ec_; clear en_))
            have GB114 := Aside0.mk gb114; have GG114 := Aside0.mk HG114; clear gb114 gl114 HG114
            (first | simp only [add_plain] at hx313_0 | skip)
            obtain ⟨hx114_0, hf114_0⟩ := Kd.R_celln false HO_6.out (x175_3 : Int) p114 q114; replace p114 := eq_true p114; replace q114 := eq_true q114; have HP116 := Kd.R_putg HO_6.out (x175_3 : Int) false
            go_wp2_with (first | ((with_reducible refine gate_store (t := 4) (p := 190) rfl ?_); refine store_event (t := 4) (p := 190) (v := ?vo_w117) (w1 := (wr.setCell ⟨go114, (x175_3 : Int).toNat, none⟩ (.bool false))) ?hg ?ho ?hn ?hr ?_; (case ho => rfl); (case hg => rfl); (case hn => rfl); (case hr => first | (go_simp; done) | (go_simp; rfl)); intro w117 hw; have hg : wr.grownBy w117 (some go114) := (by rw [hw]; exact HP116.2); have hp_ : Kd.R Kd.bool 4 w117 w.heap.size (fun k_ => some k_ ≠ (v285 : Value).ownBlock) (.slice (some ⟨go114, 0, none⟩) x6_3.length co115) y316 := (by rw [hw, Ny316.out]; exact HP116.1); clear HP116; have n0_ := Aside0.mk (Kd.R_over' (v := (.slice (some ⟨go114, 0, none⟩) x6_3.length co115)) (by (with_reducible repeat (first | apply Kd.R_alloc | apply Kd.R_drewN | apply Kd.R_drew)); exact HO_3.out) (Kd.R_typed HO_6.out) (by decide) hg); have n1_ := Aside0.mk (Kd.R_after (v := (.slice (some ⟨go114, 0, none⟩) x6_3.length co115)) (v1 := (.slice (some ⟨go114, 0, none⟩) x6_3.length co115)) (ok := (fun _ => True)) (by (with_reducible repeat (first | apply Kd.R_alloc | apply Kd.R_drewN | apply Kd.R_drew)); exact Kd.R_mono HO_5.out (fun _ hk => ⟨trivial, hk⟩)) hg (.inl rfl)); have n2_ := Aside0.mk (hp_); have n3_ := Aside0.mk ((by rw [hw]; exact below_set (HB.out) GB114.out : Below w.heap.size w w117)); clear HO_3; clear HO_5; clear HO_6; clear HB; have HO_3 := n0_; have HO_5 := n1_; have HO_6 := n2_; have HB := n3_; clear n0_ n1_ n2_ n3_; clear hg hw hp_))
            go_roundg k3
            case measure => have := HK1.out; have := HK2.out; have := HK3.out; omega
            case rel => exact ⟨(y316), (wrap64 (x175_3 + 1)), (by first | rfl | (simp; done) | (simp [*]; done)), H', ⟨by have := HK1.out; have := HK2.out; have := HK3.out; omega⟩, ⟨by (with_reducible repeat (first | apply Kd.R_alloc | apply Kd.R_drewN | apply Kd.R_drew)); exact HO_3.out⟩, ⟨by (with_reducible repeat (first | apply Kd.R_alloc | apply Kd.R_drewN | apply Kd.R_drew)); exact Kd.R_mono HO_5.out (fun _ hk => hk.2)⟩, ⟨by (with_reducible repeat (first | apply Kd.R_alloc | apply Kd.R_drewN | apply Kd.R_drew)); exact HO_6.out⟩, ⟨belowA⟩⟩
           rw [if_neg c105] at H
           exact absurd H (by simp)
          rw [if_neg c104] at H
          exact absurd H (by simp)
         rw [if_neg c103] at H; have c103b0 : decide (x175_3 < (t281.length : Int)) = false := decide_eq_false c103; clear c103; replace H := Option.bind_eq_some_iff.mp H; obtain ⟨t317, A1180, H⟩ := H
         try dsimp only at H
         have A118 := Aside0.mk A1180; clear A1180; obtain rfl := Option.some.inj H; obtain ⟨Ao119, co119, eo119⟩ := Kd.R_slice HO_6.out; subst eo119
         go_wp2_with (first | ((with_reducible refine gate_callee (f := 122) rfl ?_); refine goesL_ (some 196) rfl rfl Tryd.func122 (by kernel_rfl) rfl #[.slice Ao11 t278.length co11, .int .i64 (a0.size : Int), .slice Ao119 x6_3.length co119] rfl (by (try simp only [List.map_toArray, List.map_cons, List.map_nil]); first | done | rfl) ?_; (with_reducible refine (impl_placesOf.calls k3 _ _ t278 (a0.size : Int) _ _ x6_3 t317 _ ?side1 ?side2 ?side3 ?side4 A118.out).mono ?_); (case side1 => repeat (first | exact (Kd.R_reads' HO_3.out).2.2 | (with_reducible refine Kd.C_alloc ?_ _) | (with_reducible refine Kd.C_drewN ?_ _) | (with_reducible refine Kd.C_drew ?_))); (case side2 => exact (Kd.R_reads' HO_3.out).2.1); (case side3 => repeat (first | exact (Kd.R_reads' HO_6.out).2.2 | (with_reducible refine Kd.C_alloc ?_ _) | (with_reducible refine Kd.C_drewN ?_ _) | (with_reducible refine Kd.C_drew ?_))); (case side4 => exact (Kd.R_reads' HO_6.out).2.1); rintro e w120 ⟨v318, rfl, ho0, hb⟩; refine ⟨_, rfl, ?_⟩; have n0_ := Aside0.mk (Kd.R_below (by (with_reducible repeat (first | apply Kd.R_alloc | apply Kd.R_drewN | apply Kd.R_drew)); exact HO_3.out) hb); have n1_ := Aside0.mk (Kd.R_below (by (with_reducible repeat (first | apply Kd.R_alloc | apply Kd.R_drewN | apply Kd.R_drew)); exact HO_5.out) hb); have n2_ := Aside0.mk (Kd.R_below (by (with_reducible repeat (first | apply Kd.R_alloc | apply Kd.R_drewN | apply Kd.R_drew)); exact HO_6.out) hb); have n3_ := Aside0.mk (Kd.R_lower ho0 (below_size (belowA))); have n4_ := Aside0.mk (below_step (belowA) hb); clear HO_3; clear HO_5; clear HO_6; clear HB; have HO_3 := n0_; have HO_5 := n1_; have HO_6 := n2_; have HO319 := n3_; have HB := n4_; clear n0_ n1_ n2_ n3_ n4_; (try clear hb); (try clear hb2); (try clear hk); (try clear hi); (try clear ho0)))
         go_ret
         exact ⟨_, by first | rfl | (simp [errW_none, errW_some] <;> rfl) | (simp only [← hji7]; first | rfl | (simp [errW_none, errW_some] <;> rfl)) | (simp [*, errW_none, errW_some] <;> rfl), by (with_reducible repeat (first | apply Kd.R_alloc | apply Kd.R_drewN | apply Kd.R_drew)); exact HO319.out, belowA⟩
  rw [if_neg c9] at H
  exact absurd H (by simp)
 rw [if_neg c8] at H
 exact absurd H (by simp)

def W_impl_SentenceCuts.f (t : ByteArray) : Option (List Int) := if t.size ≤ 100000000 then some (if (t.size : Int) > 65536 then [] else YtiabgmddnddeiaaDoorSen.cuts (bytesOf t)) else none
theorem impl_SentenceCuts.cat (p : Int) : impl_Category.f p = some (YtiabgmddnddeiaaDoorCas.kind p).1 := rfl
theorem impl_SentenceCuts.w1 {i : Nat} (h : i ≤ 1000000000) : wrap64 ((i : Int) + 1) = ((i + 1 : Nat) : Int) := by unfold wrap64; omega
theorem impl_SentenceCuts.get (l : List Int) (i : Nat) : rd l (i : Int) = l.getD i 0 := by simp only [rd, Int.toNat_natCast]
theorem impl_SentenceCuts.set_ (c : List Bool) (a j : Nat) (v : Bool) (h : a < c.length) : (c.set a v).getD j false = if j = a then v else c.getD j false := by
  simp only [List.getD_eq_getElem?_getD, List.getElem?_set]
  by_cases e : a = j
  · subst e; rw [if_pos rfl, if_pos h, if_pos rfl]; rfl
  · rw [if_neg e, if_neg (fun z => e z.symm)]
theorem impl_SentenceCuts.m6 (t : ByteArray) (L : List (S121)) (l : List Int) (C : List Bool) (R : List Int) (hl : l.length ≤ 100000000) (hC : C.length = l.length) (d : Nat) : ∀ (i : Nat) (c : List Bool), l.length - i = d → i ≤ l.length → c.length = l.length + 1 →
    (∀ j, j < i → c.getD j false = (YtiabgmddnddeiaaDoorSen.D l j && C.getD j false)) → (∀ j, i ≤ j → j < l.length → c.getD j false = YtiabgmddnddeiaaDoorSen.D l j) →
    (∀ c : List Bool, c.length = l.length + 1 → (∀ j, j < l.length → c.getD j false = (YtiabgmddnddeiaaDoorSen.D l j && C.getD j false)) → ∃ k, (impl_placesOf.f k L (t.size : Int) c).bind (fun x => some x) = some R) →
    ∃ k, impl_SentenceCuts.l6 k t L C c (l.length : Int) (i : Int) = some R := by
  induction d with
  | zero =>
    intro i c h0 h1 hc ha hb hf
    obtain rfl : i = l.length := by omega
    obtain ⟨k, hk⟩ := hf c hc ha
    refine ⟨k + 1, ?_⟩
    simp only [impl_SentenceCuts.l6]
    rw [if_neg (by omega)]
    exact hk
  | succ d ih =>
    intro i c h0 h1 hc ha hb hf
    have hlt : i < l.length := by omega
    have hr : rdOf false c (i : Int) = c.getD i false := by simp only [rdOf, Int.toNat_natCast]
    have hr2 : rdOf false C (i : Int) = C.getD i false := by simp only [rdOf, Int.toNat_natCast]
    have hw := impl_SentenceCuts.w1 (i := i) (by omega)
    have go : ∀ v, v = (YtiabgmddnddeiaaDoorSen.D l i && C.getD i false) → ∃ k, impl_SentenceCuts.l6 k t L C (c.set i v) (l.length : Int) ((i + 1 : Nat) : Int) = some R := fun v hv =>
      ih (i + 1) (c.set i v) (by omega) (by omega) (by rw [List.length_set]; exact hc)
        (fun j hj => by
          rw [impl_SentenceCuts.set_ c i j v (by omega)]
          by_cases e : j = i
          · rw [if_pos e, hv, e]
          · rw [if_neg e]; exact ha j (by omega))
        (fun j h1 h2 => by rw [impl_SentenceCuts.set_ c i j v (by omega), if_neg (by omega)]; exact hb j (by omega) h2) hf
    have a1 : (i : Int) < (l.length : Int) := by omega
    have a2 : (0 : Int) ≤ (i : Int) := by omega
    have a3 : (i : Int) < (c.length : Int) := by omega
    have a4 : (i : Int) < (C.length : Int) := by omega
    have hbi := hb i (Nat.le_refl _) hlt
    cases e : c.getD i false with
    | true =>
      obtain ⟨k, hk⟩ := go (C.getD i false) (by rw [← hbi, e, Bool.true_and])
      refine ⟨k + 1, ?_⟩
      simp only [impl_SentenceCuts.l6]
      rw [if_pos a1, if_pos a2, if_pos a3, hr, e, if_pos rfl, if_pos a4, hr2, hw, Int.toNat_natCast]
      exact hk
    | false =>
      obtain ⟨k, hk⟩ := go false (by rw [← hbi, e, Bool.false_and])
      refine ⟨k + 1, ?_⟩
      simp only [impl_SentenceCuts.l6]
      rw [if_pos a1, if_pos a2, if_pos a3, hr, e, if_neg (by decide), hw, Int.toNat_natCast]
      exact hk
/-- behind the marks: what the leap comes to -/
theorem impl_SentenceCuts.m10 (t : ByteArray) (L : List (S121)) (l : List Int) (C : List Bool) (R : List Int) (c : List Bool) (hc : c.length = l.length + 1) (soft : Bool) (n b d : Nat) (hn : n ≤ l.length) (hbn : b ≤ n) (hd : d ≤ l.length)
    (h : ∃ k, impl_SentenceCuts.l1 k t L l C (if YtiabgmddnddeiaaDoorSen.fin l soft n b d = true then c.set n true else c) (n : Int) = some R) :
    ∃ k, impl_SentenceCuts.j9 k t L l C c (n : Int) soft (decide ((n : Int) > (b : Int))) (d : Int) = some R := by
  obtain ⟨k, hk⟩ := h
  have n0 : (0 : Int) ≤ (n : Int) := by omega
  have n1 : (n : Int) < (c.length : Int) := by omega
  have key : ∀ y : Bool, y = (soft && decide (d < l.length)) → impl_SentenceCuts.j10 (k + 1) t L l C c (n : Int) (decide ((n : Int) > (b : Int))) (d : Int) false y = some R := by
    intro y hy
    simp only [impl_SentenceCuts.j10]
    unfold YtiabgmddnddeiaaDoorSen.fin at hk
    rw [← hy] at hk
    cases y with
    | false =>
      rw [Bool.false_and, Bool.not_false, if_pos rfl] at hk
      rw [if_neg (by decide), if_neg (by decide), if_pos n0, if_pos n1, Int.toNat_natCast]
      exact hk
    | true =>
      have hdl : d < l.length := by
        cases soft with
        | false => cases hy
        | true => exact of_decide_eq_true hy.symm
      have d0 : (0 : Int) ≤ (d : Int) := by omega
      have d1 : (d : Int) < (l.length : Int) := by omega
      rw [if_pos rfl, if_pos d0, if_pos d1, impl_SentenceCuts.get, impl_SentenceCuts.cat]
      unfold impl_isLetter.f impl_isDigit.f
      rw [impl_SentenceCuts.cat]
      simp only [Option.bind_some]
      generalize (YtiabgmddnddeiaaDoorCas.kind (l.getD d 0)).1 = K at *
      unfold impl_in.f
      by_cases k5 : K = 5
      · rw [if_pos k5]
        rw [k5] at hk
        rw [if_neg (by simp)] at hk
        exact hk
      rw [if_neg k5]
      rw [show (K == 5) = false by simpa using k5, Bool.false_or, Bool.true_and] at hk
      by_cases nb : n = b
      · have nb2 : decide ((n : Int) > (b : Int)) = false := decide_eq_false (by omega)
        rw [nb2, if_neg (by decide)]
        rw [decide_eq_true nb, Bool.true_and] at hk
        by_cases k4 : K ≥ 4
        · rw [if_pos k4]
          simp only [Option.bind_some]
          by_cases k7 : K ≤ 7
          · rw [decide_eq_true k7, if_pos rfl]
            rw [decide_eq_true (show 4 ≤ K ∧ K ≤ 7 from ⟨k4, k7⟩), Bool.true_or, if_neg (by decide)] at hk
            exact hk
          · rw [decide_eq_false k7, if_neg (by decide)]
            rw [decide_eq_false (show ¬ (4 ≤ K ∧ K ≤ 7) from fun z => k7 z.2), Bool.false_or] at hk
            cases e : (K == 8) with
            | true => rw [if_pos rfl]; rw [e, if_neg (by decide)] at hk; exact hk
            | false => rw [if_neg (by decide), if_pos n0, if_pos n1, Int.toNat_natCast]; rw [e, Bool.not_false, if_pos rfl] at hk; exact hk
        · rw [if_neg k4]
          simp only [Option.bind_some]
          rw [if_neg (by decide)]
          rw [decide_eq_false (show ¬ (4 ≤ K ∧ K ≤ 7) from fun z => k4 z.1), Bool.false_or] at hk
          cases e : (K == 8) with
          | true => rw [if_pos rfl]; rw [e, if_neg (by decide)] at hk; exact hk
          | false => rw [if_neg (by decide), if_pos n0, if_pos n1, Int.toNat_natCast]; rw [e, Bool.not_false, if_pos rfl] at hk; exact hk
      · have nb2 : decide ((n : Int) > (b : Int)) = true := decide_eq_true (by omega)
        rw [nb2, if_pos rfl, if_pos n0, if_pos n1, Int.toNat_natCast]
        rw [decide_eq_false nb, Bool.false_and, Bool.not_false, if_pos rfl] at hk
        exact hk
  refine ⟨k + 2, ?_⟩
  simp only [impl_SentenceCuts.j9]
  cases soft with
  | true => rw [if_pos rfl]; exact key _ (by rw [Bool.true_and]; exact decide_eq_decide.2 (by omega))
  | false => rw [if_neg (by decide)]; exact key _ rfl
theorem impl_SentenceCuts.m5 (t : ByteArray) (L : List (S121)) (l : List Int) (C : List Bool) (R : List Int) (hl : l.length ≤ 100000000) (c : List Bool) (soft sp : Bool) (n : Nat) (dd : Nat) : ∀ (i : Nat), l.length - i = dd → i ≤ l.length →
    (∃ k, impl_SentenceCuts.j9 k t L l C c (n : Int) soft sp ((YtiabgmddnddeiaaDoorSen.skip YtiabgmddnddeiaaDoorSen.mk l i : Nat) : Int) = some R) → ∃ k, impl_SentenceCuts.l5 k t L l C c (n : Int) soft sp (i : Int) = some R := by
  induction dd with
  | zero =>
    intro i h0 h1 h
    rw [YtiabgmddnddeiaaDoorSen.skip_end (by omega)] at h
    obtain ⟨k, hk⟩ := h
    refine ⟨k + 1, ?_⟩
    simp only [impl_SentenceCuts.l5]
    rw [if_neg (by omega)]
    exact hk
  | succ d ih =>
    intro i h0 h1 h
    have hlt : i < l.length := by omega
    have hg : l.getD i 0 = l[i] := by simp [List.getD, hlt]
    have a1 : (i : Int) < (l.length : Int) := by omega
    have a2 : (0 : Int) ≤ (i : Int) := by omega
    have hw := impl_SentenceCuts.w1 (i := i) (by omega)
    have hm : impl_isMark.f (l.getD i 0) = some (YtiabgmddnddeiaaDoorSen.mk l[i]) := by unfold impl_isMark.f; rw [impl_SentenceCuts.cat, hg]; rfl
    cases e : YtiabgmddnddeiaaDoorSen.mk l[i] with
    | true =>
      rw [YtiabgmddnddeiaaDoorSen.skip_yes hlt e] at h
      obtain ⟨k, hk⟩ := ih (i + 1) (by omega) (by omega) h
      refine ⟨k + 1, ?_⟩
      simp only [impl_SentenceCuts.l5]
      rw [if_pos a1, if_pos a2, impl_SentenceCuts.get, hm, e, Option.bind_some, if_pos rfl, hw]
      exact hk
    | false =>
      rw [YtiabgmddnddeiaaDoorSen.skip_no hlt e] at h
      obtain ⟨k, hk⟩ := h
      refine ⟨k + 1, ?_⟩
      simp only [impl_SentenceCuts.l5]
      rw [if_pos a1, if_pos a2, impl_SentenceCuts.get, hm, e, Option.bind_some, if_neg (by decide)]
      exact hk
theorem impl_SentenceCuts.m4 (t : ByteArray) (L : List (S121)) (l : List Int) (C : List Bool) (R : List Int) (hl : l.length ≤ 100000000) (c : List Bool) (soft : Bool) (b : Nat) (dd : Nat) : ∀ (i : Nat), l.length - i = dd → i ≤ l.length →
    (∃ k, impl_SentenceCuts.j7 k t L l C c ((YtiabgmddnddeiaaDoorSen.skip YtiabgmddnddeiaaDoorSen.sp l i : Nat) : Int) soft (b : Int) = some R) → ∃ k, impl_SentenceCuts.l4 k t L l C c (i : Int) soft (b : Int) = some R := by
  induction dd with
  | zero =>
    intro i h0 h1 h
    rw [YtiabgmddnddeiaaDoorSen.skip_end (by omega)] at h
    obtain ⟨k, hk⟩ := h
    refine ⟨k + 1, ?_⟩
    simp only [impl_SentenceCuts.l4]
    rw [if_neg (by omega)]
    exact hk
  | succ d ih =>
    intro i h0 h1 h
    have hlt : i < l.length := by omega
    have hg : l.getD i 0 = l[i] := by simp [List.getD, hlt]
    have a1 : (i : Int) < (l.length : Int) := by omega
    have a2 : (0 : Int) ≤ (i : Int) := by omega
    have hw := impl_SentenceCuts.w1 (i := i) (by omega)
    have hm : impl_isSpace.f (l.getD i 0) = some (YtiabgmddnddeiaaDoorSen.sp l[i]) := by unfold impl_isSpace.f; rw [impl_SentenceCuts.cat, hg]; rfl
    cases e : YtiabgmddnddeiaaDoorSen.sp l[i] with
    | true =>
      rw [YtiabgmddnddeiaaDoorSen.skip_yes hlt e] at h
      obtain ⟨k, hk⟩ := ih (i + 1) (by omega) (by omega) h
      refine ⟨k + 1, ?_⟩
      simp only [impl_SentenceCuts.l4]
      rw [if_pos a1, if_pos a2, impl_SentenceCuts.get, hm, e, Option.bind_some, if_pos rfl, hw]
      exact hk
    | false =>
      rw [YtiabgmddnddeiaaDoorSen.skip_no hlt e] at h
      obtain ⟨k, hk⟩ := h
      refine ⟨k + 1, ?_⟩
      simp only [impl_SentenceCuts.l4]
      rw [if_pos a1, if_pos a2, impl_SentenceCuts.get, hm, e, Option.bind_some, if_neg (by decide)]
      exact hk
theorem impl_SentenceCuts.m3 (t : ByteArray) (L : List (S121)) (l : List Int) (C : List Bool) (R : List Int) (hl : l.length ≤ 100000000) (c : List Bool) (soft : Bool) (dd : Nat) : ∀ (i : Nat), l.length - i = dd → i ≤ l.length →
    (∃ k, impl_SentenceCuts.j5 k t L l C c ((YtiabgmddnddeiaaDoorSen.skip YtiabgmddnddeiaaDoorSen.cl l i : Nat) : Int) soft = some R) → ∃ k, impl_SentenceCuts.l3 k t L l C c (i : Int) soft = some R := by
  induction dd with
  | zero =>
    intro i h0 h1 h
    rw [YtiabgmddnddeiaaDoorSen.skip_end (by omega)] at h
    obtain ⟨k, hk⟩ := h
    refine ⟨k + 1, ?_⟩
    simp only [impl_SentenceCuts.l3]
    rw [if_neg (by omega)]
    exact hk
  | succ d ih =>
    intro i h0 h1 h
    have hlt : i < l.length := by omega
    have hg : l.getD i 0 = l[i] := by simp [List.getD, hlt]
    have a1 : (i : Int) < (l.length : Int) := by omega
    have a2 : (0 : Int) ≤ (i : Int) := by omega
    have hw := impl_SentenceCuts.w1 (i := i) (by omega)
    cases e : YtiabgmddnddeiaaDoorSen.cl l[i] with
    | true =>
      rw [YtiabgmddnddeiaaDoorSen.skip_yes hlt e] at h
      obtain ⟨k, hk⟩ := ih (i + 1) (by omega) (by omega) h
      refine ⟨k + 1, ?_⟩
      simp only [impl_SentenceCuts.l3]
      rw [if_pos a1, if_pos a2, impl_SentenceCuts.get, impl_one.cl, hg, e, Option.bind_some, if_pos rfl, hw]
      exact hk
    | false =>
      rw [YtiabgmddnddeiaaDoorSen.skip_no hlt e] at h
      obtain ⟨k, hk⟩ := h
      refine ⟨k + 1, ?_⟩
      simp only [impl_SentenceCuts.l3]
      rw [if_pos a1, if_pos a2, impl_SentenceCuts.get, impl_one.cl, hg, e, Option.bind_some, if_neg (by decide)]
      exact hk
theorem impl_SentenceCuts.m2 (t : ByteArray) (L : List (S121)) (l : List Int) (C : List Bool) (R : List Int) (hl : l.length ≤ 100000000) (c : List Bool) (dd : Nat) : ∀ (i : Nat) (x : Bool), l.length - i = dd → i ≤ l.length →
    (∃ k, impl_SentenceCuts.j3 k t L l C c ((YtiabgmddnddeiaaDoorSen.skip YtiabgmddnddeiaaDoorSen.st l i : Nat) : Int) (x && YtiabgmddnddeiaaDoorSen.dots l i) = some R) → ∃ k, impl_SentenceCuts.l2 k t L l C c (i : Int) x = some R := by
  induction dd with
  | zero =>
    intro i x h0 h1 h
    rw [YtiabgmddnddeiaaDoorSen.skip_end (by omega), YtiabgmddnddeiaaDoorSen.dots_end (by omega), Bool.and_true] at h
    obtain ⟨k, hk⟩ := h
    refine ⟨k + 1, ?_⟩
    simp only [impl_SentenceCuts.l2]
    rw [if_neg (by omega)]
    exact hk
  | succ d ih =>
    intro i x h0 h1 h
    have hlt : i < l.length := by omega
    have hg : l.getD i 0 = l[i] := by simp [List.getD, hlt]
    have a1 : (i : Int) < (l.length : Int) := by omega
    have a2 : (0 : Int) ≤ (i : Int) := by omega
    have hw := impl_SentenceCuts.w1 (i := i) (by omega)
    cases e : YtiabgmddnddeiaaDoorSen.st l[i] with
    | true =>
      rw [YtiabgmddnddeiaaDoorSen.skip_yes hlt e, YtiabgmddnddeiaaDoorSen.dots_yes hlt e, ← Bool.and_assoc] at h
      obtain ⟨k, hk⟩ := ih (i + 1) _ (by omega) (by omega) h
      refine ⟨k + 1, ?_⟩
      simp only [impl_SentenceCuts.l2]
      rw [if_pos a1, if_pos a2, impl_SentenceCuts.get, impl_one.st, hg, e, Option.bind_some, if_pos rfl, hw]
      cases x with
      | true => rw [if_pos rfl]; rw [Bool.true_and] at hk; exact hk
      | false => rw [if_neg (by decide)]; exact hk
    | false =>
      rw [YtiabgmddnddeiaaDoorSen.skip_no hlt e, YtiabgmddnddeiaaDoorSen.dots_no hlt e, Bool.and_true] at h
      obtain ⟨k, hk⟩ := h
      refine ⟨k + 1, ?_⟩
      simp only [impl_SentenceCuts.l2]
      rw [if_pos a1, if_pos a2, impl_SentenceCuts.get, impl_one.st, hg, e, Option.bind_some, if_neg (by decide)]
      exact hk
theorem impl_SentenceCuts.leap (t : ByteArray) (L : List (S121)) (l : List Int) (C : List Bool) (R : List Int) (hl : l.length ≤ 100000000) (c : List Bool) (hc : c.length = l.length + 1) (i : Nat) (hi : i ≤ l.length)
    (h : ∃ k, impl_SentenceCuts.l1 k t L l C (if (YtiabgmddnddeiaaDoorSen.closes l i).2 = true then c.set (YtiabgmddnddeiaaDoorSen.ec l i) true else c) ((YtiabgmddnddeiaaDoorSen.ec l i : Nat) : Int) = some R) :
    ∃ k, impl_SentenceCuts.l2 k t L l C c (i : Int) true = some R := by
  have he := YtiabgmddnddeiaaDoorSen.ends_le (l := l) (i := i) hi
  have hs := YtiabgmddnddeiaaDoorSen.skip_le (f := YtiabgmddnddeiaaDoorSen.st) hi
  refine impl_SentenceCuts.m2 t L l C R hl c _ i true rfl hi ?_
  rw [Bool.true_and]
  have e3 : ∃ k, impl_SentenceCuts.l3 k t L l C c ((YtiabgmddnddeiaaDoorSen.skip YtiabgmddnddeiaaDoorSen.st l i : Nat) : Int) (YtiabgmddnddeiaaDoorSen.dots l i) = some R := by
    refine impl_SentenceCuts.m3 t L l C R hl c _ _ _ rfl hs ?_
    have e4 : ∃ k, impl_SentenceCuts.l4 k t L l C c ((YtiabgmddnddeiaaDoorSen.eb l i : Nat) : Int) (YtiabgmddnddeiaaDoorSen.dots l i) ((YtiabgmddnddeiaaDoorSen.eb l i : Nat) : Int) = some R := by
      refine impl_SentenceCuts.m4 t L l C R hl c _ _ _ _ rfl (by omega) ?_
      have e5 : ∃ k, impl_SentenceCuts.l5 k t L l C c ((YtiabgmddnddeiaaDoorSen.ec l i : Nat) : Int) (YtiabgmddnddeiaaDoorSen.dots l i) (decide (((YtiabgmddnddeiaaDoorSen.ec l i : Nat) : Int) > ((YtiabgmddnddeiaaDoorSen.eb l i : Nat) : Int))) ((YtiabgmddnddeiaaDoorSen.ec l i : Nat) : Int) = some R := by
        refine impl_SentenceCuts.m5 t L l C R hl c _ _ _ _ _ rfl (by omega) ?_
        exact impl_SentenceCuts.m10 t L l C R c hc _ _ _ _ (by omega) (by omega) (YtiabgmddnddeiaaDoorSen.skip_le (by omega)) h
      obtain ⟨k, hk⟩ := e5
      exact ⟨k + 1, by simp only [impl_SentenceCuts.j7]; exact hk⟩
    obtain ⟨k, hk⟩ := e4
    exact ⟨k + 1, by simp only [impl_SentenceCuts.j5]; exact hk⟩
  obtain ⟨k, hk⟩ := e3
  exact ⟨k + 1, by simp only [impl_SentenceCuts.j3]; exact hk⟩
theorem impl_SentenceCuts.m1 (t : ByteArray) (L : List (S121)) (l : List Int) (C : List Bool) (R : List Int) (hl : l.length ≤ 100000000)
    (hf : ∀ c : List Bool, c.length = l.length + 1 → (∀ j, c.getD j false = YtiabgmddnddeiaaDoorSen.D l j) → ∃ k, impl_SentenceCuts.l6 k t L C c (l.length : Int) 0 = some R) (dd : Nat) : ∀ (i : Nat) (c : List Bool), l.length - i ≤ dd → i ≤ l.length → c.length = l.length + 1 →
    (∀ j, c.getD j false = (YtiabgmddnddeiaaDoorSen.LB l l.length j || YtiabgmddnddeiaaDoorSen.SB l i j)) → (∀ h : i < l.length, YtiabgmddnddeiaaDoorSen.st l[i] = true → YtiabgmddnddeiaaDoorSen.start l i = true) → ∃ k, impl_SentenceCuts.l1 k t L l C c (i : Int) = some R := by
  induction dd with
  | zero =>
    intro i c h0 h1 hc hj hs
    obtain rfl : i = l.length := by omega
    obtain ⟨k, hk⟩ := hf c hc hj
    refine ⟨k + 1, ?_⟩
    simp only [impl_SentenceCuts.l1]
    rw [if_neg (by omega)]
    exact hk
  | succ d ih =>
    intro i c h0 h1 hc hj hs
    by_cases hlt : i < l.length
    · have hg : l.getD i 0 = l[i] := by simp [List.getD, hlt]
      have a1 : (i : Int) < (l.length : Int) := by omega
      have a2 : (0 : Int) ≤ (i : Int) := by omega
      have hw := impl_SentenceCuts.w1 (i := i) (by omega)
      cases e : YtiabgmddnddeiaaDoorSen.st l[i] with
      | false =>
        have hns : YtiabgmddnddeiaaDoorSen.start l i = false := by unfold YtiabgmddnddeiaaDoorSen.start; rw [hg, e]; rfl
        obtain ⟨k, hk⟩ := ih (i + 1) c (by omega) (by omega) hc (fun j => by rw [hj, YtiabgmddnddeiaaDoorSen.SB_next, hns]; simp) (fun h z => by
          unfold YtiabgmddnddeiaaDoorSen.start
          have hg2 : l.getD (i + 1) 0 = l[i + 1] := by simp [List.getD, h]
          rw [hg2, z, Nat.add_sub_cancel, hg, e]; simp)
        refine ⟨k + 1, ?_⟩
        simp only [impl_SentenceCuts.l1]
        rw [if_pos a1, if_pos a2, impl_SentenceCuts.get, impl_one.st, hg, e, Option.bind_some, if_neg (by decide), hw]
        exact hk
      | true =>
        have hst := hs hlt e
        have he := YtiabgmddnddeiaaDoorSen.ends_le (l := l) (i := i) (by omega)
        have hgt := YtiabgmddnddeiaaDoorSen.ec_gt hlt e
        have hsk : ∀ j, YtiabgmddnddeiaaDoorSen.SB l (YtiabgmddnddeiaaDoorSen.ec l i) j = YtiabgmddnddeiaaDoorSen.SB l (i + 1) j := fun j => YtiabgmddnddeiaaDoorSen.SB_skip l j (i + 1) _ (by omega) (YtiabgmddnddeiaaDoorSen.no_start hlt e)
        have hcl : (YtiabgmddnddeiaaDoorSen.closes l i).1 = YtiabgmddnddeiaaDoorSen.ec l i := rfl
        obtain ⟨k, hk⟩ := impl_SentenceCuts.leap t L l C R hl c hc i (by omega) (by
          refine ih (YtiabgmddnddeiaaDoorSen.ec l i) _ (by omega) (by omega) (by split <;> simp [hc]) ?_ (fun h z => YtiabgmddnddeiaaDoorSen.at_close hlt e h z)
          intro j
          rw [hsk, YtiabgmddnddeiaaDoorSen.SB_next, hst, hcl]
          cases q : (YtiabgmddnddeiaaDoorSen.closes l i).2 with
          | true => rw [if_pos rfl, YtiabgmddnddeiaaDoorSen.getD_set c _ j (by omega), hj]; simp [Bool.or_assoc]
          | false => rw [if_neg (by decide), hj]; simp)
        refine ⟨k + 1, ?_⟩
        simp only [impl_SentenceCuts.l1]
        rw [if_pos a1, if_pos a2, impl_SentenceCuts.get, impl_one.st, hg, e, Option.bind_some, if_pos rfl]
        exact hk
    · obtain rfl : i = l.length := by omega
      obtain ⟨k, hk⟩ := hf c hc hj
      refine ⟨k + 1, ?_⟩
      simp only [impl_SentenceCuts.l1]
      rw [if_neg (by omega)]
      exact hk
theorem impl_SentenceCuts.m0 (t : ByteArray) (L : List (S121)) (l : List Int) (C : List Bool) (R : List Int) (hl : l.length ≤ 100000000)
    (hf : ∀ c : List Bool, c.length = l.length + 1 → (∀ j, c.getD j false = YtiabgmddnddeiaaDoorSen.LB l l.length j) → ∃ k, impl_SentenceCuts.l1 k t L l C c 0 = some R) (dd : Nat) : ∀ (i : Nat) (c : List Bool), l.length - i = dd → i ≤ l.length → c.length = l.length + 1 →
    (∀ j, c.getD j false = YtiabgmddnddeiaaDoorSen.LB l i j) → ∃ k, impl_SentenceCuts.l0 k t L l C c l (l.length : Int) (i : Int) = some R := by
  induction dd with
  | zero =>
    intro i c h0 h1 hc hj
    obtain rfl : i = l.length := by omega
    obtain ⟨k, hk⟩ := hf c hc hj
    refine ⟨k + 1, ?_⟩
    simp only [impl_SentenceCuts.l0]
    rw [if_neg (by omega)]
    exact hk
  | succ d ih =>
    intro i c h0 h1 hc hj
    have a1 : (i : Int) < (l.length : Int) := by omega
    have a2 : (0 : Int) ≤ (i : Int) := by omega
    have b0 : (0 : Int) ≤ ((i + 1 : Nat) : Int) := by omega
    have b1 : ((i + 1 : Nat) : Int) < (c.length : Int) := by omega
    have hw := impl_SentenceCuts.w1 (i := i) (by omega)
    have yes : YtiabgmddnddeiaaDoorSen.lb l i = true → ∃ k, impl_SentenceCuts.l0 k t L l C (c.set (i + 1) true) l (l.length : Int) ((i + 1 : Nat) : Int) = some R := fun hb =>
      ih (i + 1) _ (by omega) (by omega) (by rw [List.length_set]; exact hc) (fun j => by rw [YtiabgmddnddeiaaDoorSen.getD_set c _ j (by omega), hj, YtiabgmddnddeiaaDoorSen.LB_next, hb, Bool.true_and])
    have no : YtiabgmddnddeiaaDoorSen.lb l i = false → ∃ k, impl_SentenceCuts.l0 k t L l C c l (l.length : Int) ((i + 1 : Nat) : Int) = some R := fun hb =>
      ih (i + 1) c (by omega) (by omega) hc (fun j => by rw [hj, YtiabgmddnddeiaaDoorSen.LB_next, hb]; simp)
    have hlb : YtiabgmddnddeiaaDoorSen.lb l i = decide (l.getD i 0 = 10 ∨ (l.getD i 0 = 13 ∧ (i + 1 = l.length ∨ l.getD (i + 1) 0 ≠ 10))) := rfl
    by_cases c1 : l.getD i 0 = 10
    · obtain ⟨k, hk⟩ := yes (by rw [hlb, decide_eq_true (.inl c1)])
      refine ⟨k + 1, ?_⟩
      simp only [impl_SentenceCuts.l0]
      rw [if_pos a1, if_pos a2, if_pos a1, impl_SentenceCuts.get, if_pos c1, hw, if_pos b0, if_pos b1, Int.toNat_natCast]
      exact hk
    by_cases c2 : l.getD i 0 = 13
    · by_cases c3 : i + 1 = l.length
      · have c3' : ((i + 1 : Nat) : Int) = (l.length : Int) := by omega
        obtain ⟨k, hk⟩ := yes (by rw [hlb, decide_eq_true (.inr ⟨c2, .inl c3⟩)])
        refine ⟨k + 1, ?_⟩
        simp only [impl_SentenceCuts.l0]
        rw [if_pos a1, if_pos a2, if_pos a1, impl_SentenceCuts.get, if_neg c1, if_pos c2, hw, if_pos c3', if_pos b0, if_pos b1, Int.toNat_natCast]
        exact hk
      · have c3' : ¬ ((i + 1 : Nat) : Int) = (l.length : Int) := by omega
        have b2 : ((i + 1 : Nat) : Int) < (l.length : Int) := by omega
        by_cases c4 : l.getD (i + 1) 0 = 10
        · obtain ⟨k, hk⟩ := no (by rw [hlb, decide_eq_false (by rintro (z | ⟨_, z | z⟩); exact c1 z; exact c3 z; exact z c4)])
          refine ⟨k + 1, ?_⟩
          simp only [impl_SentenceCuts.l0]
          rw [if_pos a1, if_pos a2, if_pos a1, impl_SentenceCuts.get, if_neg c1, if_pos c2, hw, if_neg c3', if_pos b0, if_pos b2, impl_SentenceCuts.get, if_pos c4]
          exact hk
        · obtain ⟨k, hk⟩ := yes (by rw [hlb, decide_eq_true (.inr ⟨c2, .inr c4⟩)])
          refine ⟨k + 1, ?_⟩
          simp only [impl_SentenceCuts.l0]
          rw [if_pos a1, if_pos a2, if_pos a1, impl_SentenceCuts.get, if_neg c1, if_pos c2, hw, if_neg c3', if_pos b0, if_pos b2, impl_SentenceCuts.get, if_neg c4, if_pos b1, Int.toNat_natCast]
          exact hk
    · obtain ⟨k, hk⟩ := no (by rw [hlb, decide_eq_false (by rintro (z | ⟨z, _⟩); exact c1 z; exact c2 z)])
      refine ⟨k + 1, ?_⟩
      simp only [impl_SentenceCuts.l0]
      rw [if_pos a1, if_pos a2, if_pos a1, impl_SentenceCuts.get, if_neg c1, if_neg c2, hw]
      exact hk
theorem impl_SentenceCuts.up {k m : Nat} (h : k ≤ m) {y0 : ByteArray} {y1 : List (S121)} {y2 : List Int} {y3 y4 : List Bool} {y5 : List Int} {y6 y7 : Int} {r : List Int} (hk : impl_SentenceCuts.l0 k y0 y1 y2 y3 y4 y5 y6 y7 = some r) : impl_SentenceCuts.l0 m y0 y1 y2 y3 y4 y5 y6 y7 = some r := by
  induction h with
  | refl => exact hk
  | step _ ih => exact (impl_SentenceCuts.mono_l _).1 _ _ _ _ _ _ _ _ _ ih
theorem W_impl_SentenceCuts.to {t : ByteArray} {r : List Int} (h : W_impl_SentenceCuts.f t = some r) : ∃ k, impl_SentenceCuts.f k t = some r := by
  unfold W_impl_SentenceCuts.f at h
  split at h
  · rename_i hs
    rw [← Option.some.inj h]
    by_cases c : (t.size : Int) > 65536
    · refine ⟨1, ?_⟩
      unfold impl_SentenceCuts.f impl_long.f
      rw [decide_eq_true c, if_pos c, Option.bind_some, if_pos rfl]
    rw [if_neg c]
    have hl := YtiabgmddnddeiaaDoorDec.reads_length (bytesOf t)
    rw [bytesOf_length] at hl
    obtain ⟨L, hL⟩ : ∃ L, (YtiabgmddnddeiaaDoorDec.reads (bytesOf t)).map impl_read.mk = L := ⟨_, rfl⟩
    have hLl : L.length = (YtiabgmddnddeiaaDoorDec.reads (bytesOf t)).length := by rw [← hL, List.length_map]
    have e0 : L.map (fun x => x.f0) = YtiabgmddnddeiaaDoorPts.pts (bytesOf t) := by rw [← hL, List.map_map, ← YtiabgmddnddeiaaDoorDec.reads_pts]; rfl
    have e1 : L.map (fun x => x.f1) = YtiabgmddnddeiaaDoorChr.fromsAt (bytesOf t) 0 := by rw [← hL, List.map_map]; rfl
    have hp : (YtiabgmddnddeiaaDoorPts.pts (bytesOf t)).length = L.length := by rw [← e0, List.length_map]
    have hpr : ∀ p ∈ YtiabgmddnddeiaaDoorPts.pts (bytesOf t), 0 ≤ p ∧ p ≤ 1114111 := fun p hp => by have := YtiabgmddnddeiaaDoorPts.pts_isP _ _ (Nat.le_refl _) p hp; unfold YtiabgmddnddeiaaDoorPts.isP at this; omega
    have hread : W_impl_read.f t = some L := by unfold W_impl_read.f; rw [if_pos (by omega), hL]
    have hz2 : bytesOf t = [] ↔ (t.size : Int) = 0 := by
      rw [← bytesOf_length]
      constructor
      · intro z; rw [z]; rfl
      · intro z; exact List.length_eq_zero_iff.1 (by omega)
    have r3 : impl_charCuts.f (YtiabgmddnddeiaaDoorPts.pts (bytesOf t)) = some (YtiabgmddnddeiaaDoorChr.go none false false 0 (YtiabgmddnddeiaaDoorPts.pts (bytesOf t))) := if_pos ⟨by omega, hpr⟩
    have hcuts : YtiabgmddnddeiaaDoorSen.cuts (bytesOf t) = if bytesOf t = [] then [] else 0 :: (YtiabgmddnddeiaaDoorChr.sel (YtiabgmddnddeiaaDoorChr.fromsAt (bytesOf t) 0) (YtiabgmddnddeiaaDoorSen.G (YtiabgmddnddeiaaDoorPts.pts (bytesOf t))) ++ [(t.size : Int)]) := by
      unfold YtiabgmddnddeiaaDoorSen.cuts; rw [bytesOf_length]
    have hgl := YtiabgmddnddeiaaDoorChr.go_length (YtiabgmddnddeiaaDoorPts.pts (bytesOf t)) none false false 0
    have hhead : ∀ h : 0 < (YtiabgmddnddeiaaDoorChr.go none false false 0 (YtiabgmddnddeiaaDoorPts.pts (bytesOf t))).length, (YtiabgmddnddeiaaDoorChr.go none false false 0 (YtiabgmddnddeiaaDoorPts.pts (bytesOf t)))[0] = false := YtiabgmddnddeiaaDoorChr.go_head _
    rw [hcuts]
    generalize YtiabgmddnddeiaaDoorPts.pts (bytesOf t) = l at *
    have hGd : ∀ j, j < l.length → (YtiabgmddnddeiaaDoorSen.G l).getD j false = (YtiabgmddnddeiaaDoorSen.D l j && (YtiabgmddnddeiaaDoorChr.go none false false 0 l).getD j false) := by
      intro j hj
      have hj2 : j < (YtiabgmddnddeiaaDoorSen.G l).length := by rw [YtiabgmddnddeiaaDoorSen.G_length]; exact hj
      rw [List.getD_eq_getElem?_getD, List.getElem?_eq_getElem hj2]
      show (YtiabgmddnddeiaaDoorSen.G l)[j] = _
      simp only [YtiabgmddnddeiaaDoorSen.G, List.getElem_map, List.getElem_range]
    have hlast : ∀ c : List Bool, c.length = l.length + 1 → (∀ j, j < l.length → c.getD j false = (YtiabgmddnddeiaaDoorSen.D l j && (YtiabgmddnddeiaaDoorChr.go none false false 0 l).getD j false)) → ∃ k, (impl_placesOf.f k L (t.size : Int) c).bind (fun x => some x) = some (if bytesOf t = [] then [] else 0 :: (YtiabgmddnddeiaaDoorChr.sel (YtiabgmddnddeiaaDoorChr.fromsAt (bytesOf t) 0) (YtiabgmddnddeiaaDoorSen.G l) ++ [(t.size : Int)])) := by
      intro c hc hj
      refine ⟨L.length + 1, ?_⟩
      unfold impl_placesOf.f
      by_cases z : bytesOf t = []
      · rw [if_pos (hz2.1 z), if_pos z]; rfl
      · rw [if_neg (fun y => z (hz2.2 y)), if_neg z]
        have r4 := impl_placesOf.run (t.size : Int) L c (by omega) (by omega) _ (L.length + 1) 0 [0] (Nat.zero_le _) rfl (by omega) (by simp only [List.length_cons, List.length_nil]; omega) (fun _ g => by
          by_cases z2 : 0 < l.length
          · have q1 := hj 0 z2
            have q2 := hhead (by omega)
            have q3 : (YtiabgmddnddeiaaDoorChr.go none false false 0 l).getD 0 false = false := by
              rw [List.getD_eq_getElem?_getD, List.getElem?_eq_getElem (by omega)]; exact q2
            rw [q3, Bool.and_false, List.getD_eq_getElem?_getD, List.getElem?_eq_getElem g] at q1
            exact q1
          · exfalso
            have : L = [] := List.length_eq_zero_iff.1 (by omega)
            have e2 := congrArg List.length e1
            rw [this, List.length_map, YtiabgmddnddeiaaDoorChr.fromsAt_cons z] at e2
            simp at e2)
        simp only [List.drop_zero, Int.natCast_zero] at r4
        rw [e1] at r4
        have hFl : (YtiabgmddnddeiaaDoorChr.fromsAt (bytesOf t) 0).length = l.length := by rw [← e1, List.length_map, hp]
        rw [r4, Option.bind_some, YtiabgmddnddeiaaDoorSen.sel_congr _ c (YtiabgmddnddeiaaDoorSen.G l) (by omega) (by rw [YtiabgmddnddeiaaDoorSen.G_length]; omega) (fun j hj2 => by rw [hj j (by omega), hGd j (by omega)])]
        rfl
    obtain ⟨k, hk⟩ := impl_SentenceCuts.m0 t L l (YtiabgmddnddeiaaDoorChr.go none false false 0 l) _ (by omega) (fun c hc hj => impl_SentenceCuts.m1 t L l (YtiabgmddnddeiaaDoorChr.go none false false 0 l) _ (by omega) (fun c hc hj =>
        impl_SentenceCuts.m6 t L l (YtiabgmddnddeiaaDoorChr.go none false false 0 l) _ (by omega) hgl _ 0 c rfl (Nat.zero_le _) hc (fun j h => by omega) (fun j _ _ => hj j) hlast) l.length 0 c (by omega) (Nat.zero_le _) hc
        (fun j => by rw [hj]; have e : YtiabgmddnddeiaaDoorSen.SB l 0 j = false := rfl; rw [e, Bool.or_false])
        (fun h z => by
          unfold YtiabgmddnddeiaaDoorSen.start
          have hg : l.getD 0 0 = l[0] := by simp [List.getD, h]
          rw [hg, z]; rfl)) l.length 0 (List.replicate (l.length + 1) false) (by omega) (Nat.zero_le _) (by simp) (fun j => by
          have e : (List.replicate (l.length + 1) false).getD j false = false := by simp [List.getD, List.getElem?_replicate]; split <;> rfl
          rw [e]; rfl)
    obtain ⟨m, hm⟩ : ∃ m, m = k + L.length + 1 := ⟨_, rfl⟩
    have r1 := impl_onlyPoints.run L (by omega) _ m 0 (List.replicate L.length 0) (by simp) (by omega) rfl (by omega) (by simp)
    have a0 : (0 : Int) ≤ (L.length : Int) := by omega
    have a00 : L.length ≤ 35184372088832 := by omega
    have r2 : impl_onlyPoints.f m L = some l := by
      unfold impl_onlyPoints.f
      rw [Int.toNat_natCast, if_pos a0, if_pos a00, ← e0]
      exact r1
    have hk2 : impl_SentenceCuts.l0 m t L l (YtiabgmddnddeiaaDoorChr.go none false false 0 l) (List.replicate (l.length + 1) false) l (l.length : Int) 0 = _ := impl_SentenceCuts.up (by omega) hk
    have a1 : (0 : Int) ≤ ((l.length + 1 : Nat) : Int) := by omega
    have a2 : l.length + 1 ≤ 281474976710656 := by omega
    have a3 : ¬ (t.size : Int) > 65536 := c
    refine ⟨m, ?_⟩
    unfold impl_SentenceCuts.f impl_long.f
    rw [decide_eq_false a3, Option.bind_some, if_neg (by decide), hread, Option.bind_some, r2, Option.bind_some, r3, Option.bind_some, impl_SentenceCuts.w1 (i := l.length) (by omega), if_pos a1, Int.toNat_natCast, if_pos a2]
    exact hk2
  · cases h
theorem W_impl_SentenceCuts.calls (a0 : ByteArray) (r : List Int) (w : World) (h : W_impl_SentenceCuts.f a0 = some r) (hG : GT w) :
    Calls Tryd.prog 34 #[.string a0] w fun e w' => ∃ v0_ : Value, e = .returned (v0_) ∧ Kd.R (Kd.int .i64) 2 w' w.heap.size (fun _ => True) v0_ r ∧ Below w.heap.size w w' := by
  obtain ⟨k, hk⟩ := W_impl_SentenceCuts.to h
  exact impl_SentenceCuts.calls k a0 r w hk hG

end Go.Proofs.YtiabgmddnddeiaaDoor.QFnExactSentenceCuts
