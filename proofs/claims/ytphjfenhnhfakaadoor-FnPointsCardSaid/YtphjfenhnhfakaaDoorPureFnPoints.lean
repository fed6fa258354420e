/- The law FnPoints in plain Lean: the text of a drawn text's points is that text, well written, and its points are these again; at every input. -/
import Derived.Test.YtphjfenhnhfakaaDoorQFnPointsx9
namespace Go.Proofs.YtphjfenhnhfakaaDoor.Pure
open Go.RowKit Go.Proofs.YtphjfenhnhfakaaDoor.QFnPoints Go.Proofs.YtphjfenhnhfakaaDoorW.PrintWords Go.Proofs.YtphjfenhnhfakaaDoorW.PrintLast

theorem FnPoints : laws_FnPoints.Pure := by
  intro l hm hl hb
  refine ⟨1, ?_⟩
  unfold laws_FnPoints.f
  by_cases c : (l.length : Int) > 1048576
  · rw [if_pos c]
  · rw [if_neg c]
    obtain ⟨t, ht, hts⟩ := W_spec_DrawPointsOf.has (l := l) (by omega)
    rw [ht]
    simp only [Option.bind_some]
    -- the points of the text, by both
    obtain ⟨p, hp⟩ : ∃ p, YtphjfenhnhfakaaDoorPts.pts (bytesOf t) = p := ⟨_, rfl⟩
    have hpl : p.length ≤ 100000 := by
      have := YtphjfenhnhfakaaDoorPts.pts_length _ (bytesOf t) (Nat.le_refl _)
      rw [hp, bytesOf_length] at this
      omega
    have hpp : ∀ x ∈ p, YtphjfenhnhfakaaDoorPts.isP x := by
      rw [← hp]; exact YtphjfenhnhfakaaDoorPts.pts_isP _ _ (Nat.le_refl _)
    have e1 : ∀ s : ByteArray, s.size ≤ 100000 → ¬ ((s.size : Int) > 65536) → impl_PointsOf.f s = some (YtphjfenhnhfakaaDoorPts.pts (bytesOf s)) := by
      intro s hs h
      unfold impl_PointsOf.f impl_long.f
      simp only [Option.bind_some]
      rw [if_neg (by simpa using h)]
      unfold W_impl_points.f
      rw [if_pos (by omega)]
      rfl
    by_cases big : (t.size : Int) > 65536
    · have a : impl_PointsOf.f t = some [] := by
        unfold impl_PointsOf.f impl_long.f
        simp only [Option.bind_some]
        rw [if_pos (decide_eq_true big)]
      have b : spec_PointsOf.f t = some [] := by
        unfold spec_PointsOf.f
        rw [if_pos big]
      rw [a, b]
      simp only [Option.bind_some]
      simp [W_laws_lwSame.f, laws_FnPoints.j0, impl_TextOf.f, spec_TextOf.f, W_impl_write.f, W_spec_l01Text.f, impl_short.f, impl_long.f, spec_l01Small.f, YtphjfenhnhfakaaDoorPts.encs, strOfNums]
    · have a := e1 t hts big
      have b : spec_PointsOf.f t = some p := by
        unfold spec_PointsOf.f W_spec_l01Points.f
        rw [if_neg big, if_pos (by omega), hp]
        rfl
      rw [a, b, hp]
      simp only [Option.bind_some]
      have same : ∀ q : List Int, q.length ≤ 100000 → W_laws_lwSame.f q q = some true := by
        intro q hq
        unfold W_laws_lwSame.f
        rw [if_pos (by omega)]; simp
      rw [same p hpl]
      simp only [Option.bind_some, if_true]
      simp only [laws_FnPoints.j0]
      by_cases many : (p.length : Int) > 1000
      · rw [if_pos (decide_eq_true many), b]
        simp only [Option.bind_some]
        rw [same p hpl]; rfl
      · rw [if_neg (by simpa using many)]
        have hel := YtphjfenhnhfakaaDoorPts.encs_length p
        have hsz : (strOfNums (YtphjfenhnhfakaaDoorPts.encs p)).size = (YtphjfenhnhfakaaDoorPts.encs p).length := strOfNums_size _
        have i1 : impl_TextOf.f p = some (strOfNums (YtphjfenhnhfakaaDoorPts.encs p)) := by
          unfold impl_TextOf.f W_impl_write.f impl_short.f impl_long.f
          rw [if_neg many, if_pos (by omega)]
          simp only [Option.bind_some]
          rw [if_neg (by rw [decide_eq_true_eq]; omega)]
          rfl
        have i2 : spec_TextOf.f p = some (strOfNums (YtphjfenhnhfakaaDoorPts.encs p)) := by
          unfold spec_TextOf.f W_spec_l01Text.f spec_l01Small.f
          rw [if_neg many, if_pos (by omega)]
          simp only [Option.bind_some]
          rw [if_neg (by omega)]
          rfl
        rw [i1, i2]
        simp only [Option.bind_some, if_true]
        split
        · rfl
        · rw [e1 _ (by omega) (by omega), YtphjfenhnhfakaaDoorPts.bytesOf_strOfNums (YtphjfenhnhfakaaDoorPts.encs_bytes p), YtphjfenhnhfakaaDoorPts.pts_encs, YtphjfenhnhfakaaDoorPts.map_fix hpp]
          simp only [Option.bind_some]
          rw [same p hpl]; rfl

end Go.Proofs.YtphjfenhnhfakaaDoor.Pure
