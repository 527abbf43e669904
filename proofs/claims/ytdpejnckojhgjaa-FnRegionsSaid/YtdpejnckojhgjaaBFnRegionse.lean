/- What the proof of FnRegionsSaid rests on, part 5: plain lemmas and contracts of the functions that the law reaches (in part written by a printing program over the translation). No condition. -/
import Derived.Test.YtdpejnckojhgjaaBFnRegionsd
section
namespace Go.Proofs.Ytdpejnckojhgjaa.P
open Go.RowKit Go.Proofs.YtdpejnckojhgjaaW.PrintWords Go.Proofs.YtdpejnckojhgjaaW.PrintLast Go.Proofs.YtdpejnckojhgjaaW.PrintMore
attribute [local go_sem] max2_int min2_int max_two min_two max_three min_three max_four min_four   -- for this text's walks alone
set_option linter.unusedVariables false
set_option linter.unusedSimpArgs false

/-! ### laws_FnRegions: function 13 -/
mutual
def laws_FnRegions.j0 : Nat → List (S70) → Int → Int → Bool → List (S70) → Bool → List (S70) → Bool → List (S70) → Bool → Bool → Option (Bool)
  | 0, _, _, _, _, _, _, _, _, _, _, _ => none
  | k + 1, x3, x5, x6, x7, x8, x9, x10, x11, x12, x13, x118 => if x118 = true then (some false) else (laws_FnRegions.l0 k x3 x5 x6 x7 x8 x9 x10 x11 x12 x13 0)
def laws_FnRegions.l0 : Nat → List (S70) → Int → Int → Bool → List (S70) → Bool → List (S70) → Bool → List (S70) → Bool → Int → Option (Bool)
  | 0, _, _, _, _, _, _, _, _, _, _, _ => none
  | k + 1, x3, x5, x6, x7, x8, x9, x10, x11, x12, x13, x20 => if x20 < 64 then ((spec_Allowed.f k x3 x20).bind fun bt1195 => (if x20 ≥ x5 then (laws_FnRegions.j2 k x3 x5 x6 x7 x8 x9 x10 x11 x12 x13 x20 bt1195.1 bt1195.2 (decide (x20 < x6))) else (laws_FnRegions.j2 k x3 x5 x6 x7 x8 x9 x10 x11 x12 x13 x20 bt1195.1 bt1195.2 false))) else (some true)
def laws_FnRegions.j2 : Nat → List (S70) → Int → Int → Bool → List (S70) → Bool → List (S70) → Bool → List (S70) → Bool → Int → Bool → Bool → Bool → Option (Bool)
  | 0, _, _, _, _, _, _, _, _, _, _, _, _, _, _ => none
  | k + 1, x3, x5, x6, x7, x8, x9, x10, x11, x12, x13, x20, x21, x22, x23 => laws_FnRegions.l1 k x3 x5 x6 x7 x8 x9 x10 x11 x12 x13 x20 x21 x22 x23 0
def laws_FnRegions.l1 : Nat → List (S70) → Int → Int → Bool → List (S70) → Bool → List (S70) → Bool → List (S70) → Bool → Int → Bool → Bool → Bool → Int → Option (Bool)
  | 0, _, _, _, _, _, _, _, _, _, _, _, _, _, _, _ => none
  | k + 1, x3, x5, x6, x7, x8, x9, x10, x11, x12, x13, x20, x21, x22, x23, x24 => if x24 < 3 then (if x21 = true then (laws_FnRegions.j4 k x3 x5 x6 x7 x8 x9 x10 x11 x12 x13 x20 x21 x22 x23 x24 x8 x9 true) else (laws_FnRegions.j4 k x3 x5 x6 x7 x8 x9 x10 x11 x12 x13 x20 x21 x22 x23 x24 x8 x9 x23)) else (laws_FnRegions.l0 k x3 x5 x6 x7 x8 x9 x10 x11 x12 x13 (wrap64 (x20 + 1)))
def laws_FnRegions.j4 : Nat → List (S70) → Int → Int → Bool → List (S70) → Bool → List (S70) → Bool → List (S70) → Bool → Int → Bool → Bool → Bool → Int → List (S70) → Bool → Bool → Option (Bool)
  | 0, _, _, _, _, _, _, _, _, _, _, _, _, _, _, _, _, _, _ => none
  | k + 1, x3, x5, x6, x7, x8, x9, x10, x11, x12, x13, x20, x21, x22, x23, x24, x25, x26, x27 => if x22 = true then (laws_FnRegions.j5 k x3 x5 x6 x7 x8 x9 x10 x11 x12 x13 x20 x21 x22 x23 x24 x25 x26 x27 true) else (if x23 = true then (laws_FnRegions.j5 k x3 x5 x6 x7 x8 x9 x10 x11 x12 x13 x20 x21 x22 x23 x24 x25 x26 x27 x7) else (laws_FnRegions.j5 k x3 x5 x6 x7 x8 x9 x10 x11 x12 x13 x20 x21 x22 x23 x24 x25 x26 x27 false))
def laws_FnRegions.j5 : Nat → List (S70) → Int → Int → Bool → List (S70) → Bool → List (S70) → Bool → List (S70) → Bool → Int → Bool → Bool → Bool → Int → List (S70) → Bool → Bool → Bool → Option (Bool)
  | 0, _, _, _, _, _, _, _, _, _, _, _, _, _, _, _, _, _, _, _ => none
  | k + 1, x3, x5, x6, x7, x8, x9, x10, x11, x12, x13, x20, x21, x22, x23, x24, x25, x26, x27, x28 => if x24 = 1 then (if x21 = true then (if x22 = true then (laws_FnRegions.j6 k x3 x5 x6 x7 x8 x9 x10 x11 x12 x13 x20 x21 x22 x23 x24 x10 x11 (!x23) (!x23)) else (laws_FnRegions.j6 k x3 x5 x6 x7 x8 x9 x10 x11 x12 x13 x20 x21 x22 x23 x24 x10 x11 (!x23) false)) else (if x22 = true then (laws_FnRegions.j6 k x3 x5 x6 x7 x8 x9 x10 x11 x12 x13 x20 x21 x22 x23 x24 x10 x11 false (!x23)) else (laws_FnRegions.j6 k x3 x5 x6 x7 x8 x9 x10 x11 x12 x13 x20 x21 x22 x23 x24 x10 x11 false false))) else (laws_FnRegions.j6 k x3 x5 x6 x7 x8 x9 x10 x11 x12 x13 x20 x21 x22 x23 x24 x25 x26 x27 x28)
def laws_FnRegions.j6 : Nat → List (S70) → Int → Int → Bool → List (S70) → Bool → List (S70) → Bool → List (S70) → Bool → Int → Bool → Bool → Bool → Int → List (S70) → Bool → Bool → Bool → Option (Bool)
  | 0, _, _, _, _, _, _, _, _, _, _, _, _, _, _, _, _, _, _, _ => none
  | k + 1, x3, x5, x6, x7, x8, x9, x10, x11, x12, x13, x20, x21, x22, x23, x24, x25, x26, x27, x28 => if x24 = 2 then (if x22 = true then (if x23 = true then (laws_FnRegions.j7 k x3 x5 x6 x7 x8 x9 x10 x11 x12 x13 x20 x21 x22 x23 x24 x12 x13 x21 x7) else (laws_FnRegions.j7 k x3 x5 x6 x7 x8 x9 x10 x11 x12 x13 x20 x21 x22 x23 x24 x12 x13 x21 true)) else (if x23 = true then (laws_FnRegions.j7 k x3 x5 x6 x7 x8 x9 x10 x11 x12 x13 x20 x21 x22 x23 x24 x12 x13 x21 x7) else (laws_FnRegions.j7 k x3 x5 x6 x7 x8 x9 x10 x11 x12 x13 x20 x21 x22 x23 x24 x12 x13 x21 false))) else (laws_FnRegions.j7 k x3 x5 x6 x7 x8 x9 x10 x11 x12 x13 x20 x21 x22 x23 x24 x25 x26 x27 x28)
def laws_FnRegions.j7 : Nat → List (S70) → Int → Int → Bool → List (S70) → Bool → List (S70) → Bool → List (S70) → Bool → Int → Bool → Bool → Bool → Int → List (S70) → Bool → Bool → Bool → Option (Bool)
  | 0, _, _, _, _, _, _, _, _, _, _, _, _, _, _, _, _, _, _, _ => none
  | k + 1, x3, x5, x6, x7, x8, x9, x10, x11, x12, x13, x20, x21, x22, x23, x24, x25, x26, x27, x28 => (impl_Allowed.f k x25 x20).bind fun bt1197 => (if x26 = true then (if (bt1197.1 != x27) = true then (some false) else (if (bt1197.2 != x28) = true then (some false) else ((impl_RegionsOk.f k x25).bind fun t1199 => (if t1199 = true then (laws_FnRegions.l1 k x3 x5 x6 x7 x8 x9 x10 x11 x12 x13 x20 x21 x22 x23 (wrap64 (x24 + 1))) else (some false))))) else (laws_FnRegions.l1 k x3 x5 x6 x7 x8 x9 x10 x11 x12 x13 x20 x21 x22 x23 (wrap64 (x24 + 1))))
end
def laws_FnRegions.f (k : Nat) (l0 : List Int) : Option (Bool) := (laws_big.f l0).bind fun t1160 => (if t1160 = true then (some true) else ((spec_DrawRightRegions.f k l0).bind fun t1161 => ((spec_DrawPlaces.f k l0).bind fun t1164 => (if 0 < (t1164.length : Int) then (if 1 < (t1164.length : Int) then (if 2 < (t1164.length : Int) then ((impl_PutRegion.f k t1161 (Int.tmod (rd t1164 0) 60) (wrap64 ((wrap64 ((Int.tmod (rd t1164 0) 60) + 1)) + (Int.tmod (rd t1164 1) 4))) ((Int.tmod (rd t1164 2) 2) == 0)).bind fun bt1170 => ((impl_CutRegions.f k t1161 (Int.tmod (rd t1164 0) 60) (wrap64 ((wrap64 ((Int.tmod (rd t1164 0) 60) + 1)) + (Int.tmod (rd t1164 1) 4)))).bind fun bt1174 => ((impl_ChangeRegions.f k t1161 (Int.tmod (rd t1164 0) 60) (wrap64 ((wrap64 ((Int.tmod (rd t1164 0) 60) + 1)) + (Int.tmod (rd t1164 1) 4))) ((Int.tmod (rd t1164 2) 2) == 0)).bind fun bt1178 => ((spec_PutRegion.f k t1161 (Int.tmod (rd t1164 0) 60) (wrap64 ((wrap64 ((Int.tmod (rd t1164 0) 60) + 1)) + (Int.tmod (rd t1164 1) 4))) ((Int.tmod (rd t1164 2) 2) == 0)).bind fun bt1182 => ((spec_CutRegions.f k t1161 (Int.tmod (rd t1164 0) 60) (wrap64 ((wrap64 ((Int.tmod (rd t1164 0) 60) + 1)) + (Int.tmod (rd t1164 1) 4)))).bind fun bt1186 => ((spec_ChangeRegions.f k t1161 (Int.tmod (rd t1164 0) 60) (wrap64 ((wrap64 ((Int.tmod (rd t1164 0) 60) + 1)) + (Int.tmod (rd t1164 1) 4))) ((Int.tmod (rd t1164 2) 2) == 0)).bind fun bt1190 => (if (bt1170.2 != bt1182.2) = true then (laws_FnRegions.j0 k t1161 (Int.tmod (rd t1164 0) 60) (wrap64 ((wrap64 ((Int.tmod (rd t1164 0) 60) + 1)) + (Int.tmod (rd t1164 1) 4))) ((Int.tmod (rd t1164 2) 2) == 0) bt1170.1 bt1170.2 bt1174.1 bt1174.2 bt1178.1 bt1178.2 true) else (if (bt1174.2 != bt1186.2) = true then (laws_FnRegions.j0 k t1161 (Int.tmod (rd t1164 0) 60) (wrap64 ((wrap64 ((Int.tmod (rd t1164 0) 60) + 1)) + (Int.tmod (rd t1164 1) 4))) ((Int.tmod (rd t1164 2) 2) == 0) bt1170.1 bt1170.2 bt1174.1 bt1174.2 bt1178.1 bt1178.2 true) else (if (bt1178.2 != bt1190.2) = true then (laws_FnRegions.j0 k t1161 (Int.tmod (rd t1164 0) 60) (wrap64 ((wrap64 ((Int.tmod (rd t1164 0) 60) + 1)) + (Int.tmod (rd t1164 1) 4))) ((Int.tmod (rd t1164 2) 2) == 0) bt1170.1 bt1170.2 bt1174.1 bt1174.2 bt1178.1 bt1178.2 true) else ((impl_RegionsOk.f k t1161).bind fun t1194 => (laws_FnRegions.j0 k t1161 (Int.tmod (rd t1164 0) 60) (wrap64 ((wrap64 ((Int.tmod (rd t1164 0) 60) + 1)) + (Int.tmod (rd t1164 1) 4))) ((Int.tmod (rd t1164 2) 2) == 0) bt1170.1 bt1170.2 bt1174.1 bt1174.2 bt1178.1 bt1178.2 (!t1194)))))))))))) else (none)) else (none)) else (none)))))
theorem laws_FnRegions.mono_l : ∀ k, (∀ y0 y1 y2 y3 y4 y5 y6 y7 y8 y9 y10, LeO (laws_FnRegions.j0 k y0 y1 y2 y3 y4 y5 y6 y7 y8 y9 y10) (laws_FnRegions.j0 (k + 1) y0 y1 y2 y3 y4 y5 y6 y7 y8 y9 y10)) ∧ (∀ y0 y1 y2 y3 y4 y5 y6 y7 y8 y9 y10, LeO (laws_FnRegions.l0 k y0 y1 y2 y3 y4 y5 y6 y7 y8 y9 y10) (laws_FnRegions.l0 (k + 1) y0 y1 y2 y3 y4 y5 y6 y7 y8 y9 y10)) ∧ (∀ y0 y1 y2 y3 y4 y5 y6 y7 y8 y9 y10 y11 y12 y13, LeO (laws_FnRegions.j2 k y0 y1 y2 y3 y4 y5 y6 y7 y8 y9 y10 y11 y12 y13) (laws_FnRegions.j2 (k + 1) y0 y1 y2 y3 y4 y5 y6 y7 y8 y9 y10 y11 y12 y13)) ∧ (∀ y0 y1 y2 y3 y4 y5 y6 y7 y8 y9 y10 y11 y12 y13 y14, LeO (laws_FnRegions.l1 k y0 y1 y2 y3 y4 y5 y6 y7 y8 y9 y10 y11 y12 y13 y14) (laws_FnRegions.l1 (k + 1) y0 y1 y2 y3 y4 y5 y6 y7 y8 y9 y10 y11 y12 y13 y14)) ∧ (∀ y0 y1 y2 y3 y4 y5 y6 y7 y8 y9 y10 y11 y12 y13 y14 y15 y16 y17, LeO (laws_FnRegions.j4 k y0 y1 y2 y3 y4 y5 y6 y7 y8 y9 y10 y11 y12 y13 y14 y15 y16 y17) (laws_FnRegions.j4 (k + 1) y0 y1 y2 y3 y4 y5 y6 y7 y8 y9 y10 y11 y12 y13 y14 y15 y16 y17)) ∧ (∀ y0 y1 y2 y3 y4 y5 y6 y7 y8 y9 y10 y11 y12 y13 y14 y15 y16 y17 y18, LeO (laws_FnRegions.j5 k y0 y1 y2 y3 y4 y5 y6 y7 y8 y9 y10 y11 y12 y13 y14 y15 y16 y17 y18) (laws_FnRegions.j5 (k + 1) y0 y1 y2 y3 y4 y5 y6 y7 y8 y9 y10 y11 y12 y13 y14 y15 y16 y17 y18)) ∧ (∀ y0 y1 y2 y3 y4 y5 y6 y7 y8 y9 y10 y11 y12 y13 y14 y15 y16 y17 y18, LeO (laws_FnRegions.j6 k y0 y1 y2 y3 y4 y5 y6 y7 y8 y9 y10 y11 y12 y13 y14 y15 y16 y17 y18) (laws_FnRegions.j6 (k + 1) y0 y1 y2 y3 y4 y5 y6 y7 y8 y9 y10 y11 y12 y13 y14 y15 y16 y17 y18)) ∧ (∀ y0 y1 y2 y3 y4 y5 y6 y7 y8 y9 y10 y11 y12 y13 y14 y15 y16 y17 y18, LeO (laws_FnRegions.j7 k y0 y1 y2 y3 y4 y5 y6 y7 y8 y9 y10 y11 y12 y13 y14 y15 y16 y17 y18) (laws_FnRegions.j7 (k + 1) y0 y1 y2 y3 y4 y5 y6 y7 y8 y9 y10 y11 y12 y13 y14 y15 y16 y17 y18))
  | 0 => ⟨fun _ _ _ _ _ _ _ _ _ _ _ r h => by simp [laws_FnRegions.j0] at h, fun _ _ _ _ _ _ _ _ _ _ _ r h => by simp [laws_FnRegions.l0] at h, fun _ _ _ _ _ _ _ _ _ _ _ _ _ _ r h => by simp [laws_FnRegions.j2] at h, fun _ _ _ _ _ _ _ _ _ _ _ _ _ _ _ r h => by simp [laws_FnRegions.l1] at h, fun _ _ _ _ _ _ _ _ _ _ _ _ _ _ _ _ _ _ r h => by simp [laws_FnRegions.j4] at h, fun _ _ _ _ _ _ _ _ _ _ _ _ _ _ _ _ _ _ _ r h => by simp [laws_FnRegions.j5] at h, fun _ _ _ _ _ _ _ _ _ _ _ _ _ _ _ _ _ _ _ r h => by simp [laws_FnRegions.j6] at h, fun _ _ _ _ _ _ _ _ _ _ _ _ _ _ _ _ _ _ _ r h => by simp [laws_FnRegions.j7] at h⟩
  | k + 1 => by
    obtain ⟨ih0, ih1, ih2, ih3, ih4, ih5, ih6, ih7⟩ := laws_FnRegions.mono_l k
    refine ⟨?_, ?_, ?_, ?_, ?_, ?_, ?_, ?_⟩
    · intro y0 y1 y2 y3 y4 y5 y6 y7 y8 y9 y10
      unfold laws_FnRegions.j0
      repeat' first
      | (with_reducible exact ih0 _ _ _ _ _ _ _ _ _ _ _)
      | (with_reducible exact ih1 _ _ _ _ _ _ _ _ _ _ _)
      | (with_reducible exact ih2 _ _ _ _ _ _ _ _ _ _ _ _ _ _)
      | (with_reducible exact ih3 _ _ _ _ _ _ _ _ _ _ _ _ _ _ _)
      | (with_reducible exact ih4 _ _ _ _ _ _ _ _ _ _ _ _ _ _ _ _ _ _)
      | (with_reducible exact ih5 _ _ _ _ _ _ _ _ _ _ _ _ _ _ _ _ _ _ _)
      | (with_reducible exact ih6 _ _ _ _ _ _ _ _ _ _ _ _ _ _ _ _ _ _ _)
      | (with_reducible exact ih7 _ _ _ _ _ _ _ _ _ _ _ _ _ _ _ _ _ _ _)
      | (with_reducible exact impl_Allowed.mono _ _ _)
      | (with_reducible exact impl_ChangeRegions.mono _ _ _ _ _)
      | (with_reducible exact impl_CutRegions.mono _ _ _ _)
      | (with_reducible exact impl_PutRegion.mono _ _ _ _ _)
      | (with_reducible exact impl_RegionsOk.mono _ _)
      | (with_reducible exact spec_Allowed.mono _ _ _)
      | (with_reducible exact spec_ChangeRegions.mono _ _ _ _ _)
      | (with_reducible exact spec_CutRegions.mono _ _ _ _)
      | (with_reducible exact spec_DrawPlaces.mono _ _)
      | (with_reducible exact spec_DrawRightRegions.mono _ _)
      | (with_reducible exact spec_PutRegion.mono _ _ _ _ _)
      | (with_reducible exact LeO.refl _)
      | (with_reducible exact LeO.none _)
      | (with_reducible refine LeO.ite ?_ ?_)
      | (with_reducible refine LeO.bind ?_ (fun _ => ?_))
      | exact ih0 _ _ _ _ _ _ _ _ _ _ _
      | exact ih1 _ _ _ _ _ _ _ _ _ _ _
      | exact ih2 _ _ _ _ _ _ _ _ _ _ _ _ _ _
      | exact ih3 _ _ _ _ _ _ _ _ _ _ _ _ _ _ _
      | exact ih4 _ _ _ _ _ _ _ _ _ _ _ _ _ _ _ _ _ _
      | exact ih5 _ _ _ _ _ _ _ _ _ _ _ _ _ _ _ _ _ _ _
      | exact ih6 _ _ _ _ _ _ _ _ _ _ _ _ _ _ _ _ _ _ _
      | exact ih7 _ _ _ _ _ _ _ _ _ _ _ _ _ _ _ _ _ _ _
      | exact impl_Allowed.mono _ _ _
      | exact impl_ChangeRegions.mono _ _ _ _ _
      | exact impl_CutRegions.mono _ _ _ _
      | exact impl_PutRegion.mono _ _ _ _ _
      | exact impl_RegionsOk.mono _ _
      | exact spec_Allowed.mono _ _ _
      | exact spec_ChangeRegions.mono _ _ _ _ _
      | exact spec_CutRegions.mono _ _ _ _
      | exact spec_DrawPlaces.mono _ _
      | exact spec_DrawRightRegions.mono _ _
      | exact spec_PutRegion.mono _ _ _ _ _
      | exact LeO.none _
      | refine LeO.ite ?_ ?_
      | refine LeO.bind ?_ (fun _ => ?_)
    · intro y0 y1 y2 y3 y4 y5 y6 y7 y8 y9 y10
      unfold laws_FnRegions.l0
      repeat' first
      | (with_reducible exact ih0 _ _ _ _ _ _ _ _ _ _ _)
      | (with_reducible exact ih1 _ _ _ _ _ _ _ _ _ _ _)
      | (with_reducible exact ih2 _ _ _ _ _ _ _ _ _ _ _ _ _ _)
      | (with_reducible exact ih3 _ _ _ _ _ _ _ _ _ _ _ _ _ _ _)
      | (with_reducible exact ih4 _ _ _ _ _ _ _ _ _ _ _ _ _ _ _ _ _ _)
      | (with_reducible exact ih5 _ _ _ _ _ _ _ _ _ _ _ _ _ _ _ _ _ _ _)
      | (with_reducible exact ih6 _ _ _ _ _ _ _ _ _ _ _ _ _ _ _ _ _ _ _)
      | (with_reducible exact ih7 _ _ _ _ _ _ _ _ _ _ _ _ _ _ _ _ _ _ _)
      | (with_reducible exact impl_Allowed.mono _ _ _)
      | (with_reducible exact impl_ChangeRegions.mono _ _ _ _ _)
      | (with_reducible exact impl_CutRegions.mono _ _ _ _)
      | (with_reducible exact impl_PutRegion.mono _ _ _ _ _)
      | (with_reducible exact impl_RegionsOk.mono _ _)
      | (with_reducible exact spec_Allowed.mono _ _ _)
      | (with_reducible exact spec_ChangeRegions.mono _ _ _ _ _)
      | (with_reducible exact spec_CutRegions.mono _ _ _ _)
      | (with_reducible exact spec_DrawPlaces.mono _ _)
      | (with_reducible exact spec_DrawRightRegions.mono _ _)
      | (with_reducible exact spec_PutRegion.mono _ _ _ _ _)
      | (with_reducible exact LeO.refl _)
      | (with_reducible exact LeO.none _)
      | (with_reducible refine LeO.ite ?_ ?_)
      | (with_reducible refine LeO.bind ?_ (fun _ => ?_))
      | exact ih0 _ _ _ _ _ _ _ _ _ _ _
      | exact ih1 _ _ _ _ _ _ _ _ _ _ _
      | exact ih2 _ _ _ _ _ _ _ _ _ _ _ _ _ _
      | exact ih3 _ _ _ _ _ _ _ _ _ _ _ _ _ _ _
      | exact ih4 _ _ _ _ _ _ _ _ _ _ _ _ _ _ _ _ _ _
      | exact ih5 _ _ _ _ _ _ _ _ _ _ _ _ _ _ _ _ _ _ _
      | exact ih6 _ _ _ _ _ _ _ _ _ _ _ _ _ _ _ _ _ _ _
      | exact ih7 _ _ _ _ _ _ _ _ _ _ _ _ _ _ _ _ _ _ _
      | exact impl_Allowed.mono _ _ _
      | exact impl_ChangeRegions.mono _ _ _ _ _
      | exact impl_CutRegions.mono _ _ _ _
      | exact impl_PutRegion.mono _ _ _ _ _
      | exact impl_RegionsOk.mono _ _
      | exact spec_Allowed.mono _ _ _
      | exact spec_ChangeRegions.mono _ _ _ _ _
      | exact spec_CutRegions.mono _ _ _ _
      | exact spec_DrawPlaces.mono _ _
      | exact spec_DrawRightRegions.mono _ _
      | exact spec_PutRegion.mono _ _ _ _ _
      | exact LeO.none _
      | refine LeO.ite ?_ ?_
      | refine LeO.bind ?_ (fun _ => ?_)
    · intro y0 y1 y2 y3 y4 y5 y6 y7 y8 y9 y10 y11 y12 y13
      unfold laws_FnRegions.j2
      repeat' first
      | (with_reducible exact ih0 _ _ _ _ _ _ _ _ _ _ _)
      | (with_reducible exact ih1 _ _ _ _ _ _ _ _ _ _ _)
      | (with_reducible exact ih2 _ _ _ _ _ _ _ _ _ _ _ _ _ _)
      | (with_reducible exact ih3 _ _ _ _ _ _ _ _ _ _ _ _ _ _ _)
      | (with_reducible exact ih4 _ _ _ _ _ _ _ _ _ _ _ _ _ _ _ _ _ _)
      | (with_reducible exact ih5 _ _ _ _ _ _ _ _ _ _ _ _ _ _ _ _ _ _ _)
      | (with_reducible exact ih6 _ _ _ _ _ _ _ _ _ _ _ _ _ _ _ _ _ _ _)
      | (with_reducible exact ih7 _ _ _ _ _ _ _ _ _ _ _ _ _ _ _ _ _ _ _)
      | (with_reducible exact impl_Allowed.mono _ _ _)
      | (with_reducible exact impl_ChangeRegions.mono _ _ _ _ _)
      | (with_reducible exact impl_CutRegions.mono _ _ _ _)
      | (with_reducible exact impl_PutRegion.mono _ _ _ _ _)
      | (with_reducible exact impl_RegionsOk.mono _ _)
      | (with_reducible exact spec_Allowed.mono _ _ _)
      | (with_reducible exact spec_ChangeRegions.mono _ _ _ _ _)
      | (with_reducible exact spec_CutRegions.mono _ _ _ _)
      | (with_reducible exact spec_DrawPlaces.mono _ _)
      | (with_reducible exact spec_DrawRightRegions.mono _ _)
      | (with_reducible exact spec_PutRegion.mono _ _ _ _ _)
      | (with_reducible exact LeO.refl _)
      | (with_reducible exact LeO.none _)
      | (with_reducible refine LeO.ite ?_ ?_)
      | (with_reducible refine LeO.bind ?_ (fun _ => ?_))
      | exact ih0 _ _ _ _ _ _ _ _ _ _ _
      | exact ih1 _ _ _ _ _ _ _ _ _ _ _
      | exact ih2 _ _ _ _ _ _ _ _ _ _ _ _ _ _
      | exact ih3 _ _ _ _ _ _ _ _ _ _ _ _ _ _ _
      | exact ih4 _ _ _ _ _ _ _ _ _ _ _ _ _ _ _ _ _ _
      | exact ih5 _ _ _ _ _ _ _ _ _ _ _ _ _ _ _ _ _ _ _
      | exact ih6 _ _ _ _ _ _ _ _ _ _ _ _ _ _ _ _ _ _ _
      | exact ih7 _ _ _ _ _ _ _ _ _ _ _ _ _ _ _ _ _ _ _
      | exact impl_Allowed.mono _ _ _
      | exact impl_ChangeRegions.mono _ _ _ _ _
      | exact impl_CutRegions.mono _ _ _ _
      | exact impl_PutRegion.mono _ _ _ _ _
      | exact impl_RegionsOk.mono _ _
      | exact spec_Allowed.mono _ _ _
      | exact spec_ChangeRegions.mono _ _ _ _ _
      | exact spec_CutRegions.mono _ _ _ _
      | exact spec_DrawPlaces.mono _ _
      | exact spec_DrawRightRegions.mono _ _
      | exact spec_PutRegion.mono _ _ _ _ _
      | exact LeO.none _
      | refine LeO.ite ?_ ?_
      | refine LeO.bind ?_ (fun _ => ?_)
    · intro y0 y1 y2 y3 y4 y5 y6 y7 y8 y9 y10 y11 y12 y13 y14
      unfold laws_FnRegions.l1
      repeat' first
      | (with_reducible exact ih0 _ _ _ _ _ _ _ _ _ _ _)
      | (with_reducible exact ih1 _ _ _ _ _ _ _ _ _ _ _)
      | (with_reducible exact ih2 _ _ _ _ _ _ _ _ _ _ _ _ _ _)
      | (with_reducible exact ih3 _ _ _ _ _ _ _ _ _ _ _ _ _ _ _)
      | (with_reducible exact ih4 _ _ _ _ _ _ _ _ _ _ _ _ _ _ _ _ _ _)
      | (with_reducible exact ih5 _ _ _ _ _ _ _ _ _ _ _ _ _ _ _ _ _ _ _)
      | (with_reducible exact ih6 _ _ _ _ _ _ _ _ _ _ _ _ _ _ _ _ _ _ _)
      | (with_reducible exact ih7 _ _ _ _ _ _ _ _ _ _ _ _ _ _ _ _ _ _ _)
      | (with_reducible exact impl_Allowed.mono _ _ _)
      | (with_reducible exact impl_ChangeRegions.mono _ _ _ _ _)
      | (with_reducible exact impl_CutRegions.mono _ _ _ _)
      | (with_reducible exact impl_PutRegion.mono _ _ _ _ _)
      | (with_reducible exact impl_RegionsOk.mono _ _)
      | (with_reducible exact spec_Allowed.mono _ _ _)
      | (with_reducible exact spec_ChangeRegions.mono _ _ _ _ _)
      | (with_reducible exact spec_CutRegions.mono _ _ _ _)
      | (with_reducible exact spec_DrawPlaces.mono _ _)
      | (with_reducible exact spec_DrawRightRegions.mono _ _)
      | (with_reducible exact spec_PutRegion.mono _ _ _ _ _)
      | (with_reducible exact LeO.refl _)
      | (with_reducible exact LeO.none _)
      | (with_reducible refine LeO.ite ?_ ?_)
      | (with_reducible refine LeO.bind ?_ (fun _ => ?_))
      | exact ih0 _ _ _ _ _ _ _ _ _ _ _
      | exact ih1 _ _ _ _ _ _ _ _ _ _ _
      | exact ih2 _ _ _ _ _ _ _ _ _ _ _ _ _ _
      | exact ih3 _ _ _ _ _ _ _ _ _ _ _ _ _ _ _
      | exact ih4 _ _ _ _ _ _ _ _ _ _ _ _ _ _ _ _ _ _
      | exact ih5 _ _ _ _ _ _ _ _ _ _ _ _ _ _ _ _ _ _ _
      | exact ih6 _ _ _ _ _ _ _ _ _ _ _ _ _ _ _ _ _ _ _
      | exact ih7 _ _ _ _ _ _ _ _ _ _ _ _ _ _ _ _ _ _ _
      | exact impl_Allowed.mono _ _ _
      | exact impl_ChangeRegions.mono _ _ _ _ _
      | exact impl_CutRegions.mono _ _ _ _
      | exact impl_PutRegion.mono _ _ _ _ _
      | exact impl_RegionsOk.mono _ _
      | exact spec_Allowed.mono _ _ _
      | exact spec_ChangeRegions.mono _ _ _ _ _
      | exact spec_CutRegions.mono _ _ _ _
      | exact spec_DrawPlaces.mono _ _
      | exact spec_DrawRightRegions.mono _ _
      | exact spec_PutRegion.mono _ _ _ _ _
      | exact LeO.none _
      | refine LeO.ite ?_ ?_
      | refine LeO.bind ?_ (fun _ => ?_)
    · intro y0 y1 y2 y3 y4 y5 y6 y7 y8 y9 y10 y11 y12 y13 y14 y15 y16 y17
      unfold laws_FnRegions.j4
      repeat' first
      | (with_reducible exact ih0 _ _ _ _ _ _ _ _ _ _ _)
      | (with_reducible exact ih1 _ _ _ _ _ _ _ _ _ _ _)
      | (with_reducible exact ih2 _ _ _ _ _ _ _ _ _ _ _ _ _ _)
      | (with_reducible exact ih3 _ _ _ _ _ _ _ _ _ _ _ _ _ _ _)
      | (with_reducible exact ih4 _ _ _ _ _ _ _ _ _ _ _ _ _ _ _ _ _ _)
      | (with_reducible exact ih5 _ _ _ _ _ _ _ _ _ _ _ _ _ _ _ _ _ _ _)
      | (with_reducible exact ih6 _ _ _ _ _ _ _ _ _ _ _ _ _ _ _ _ _ _ _)
      | (with_reducible exact ih7 _ _ _ _ _ _ _ _ _ _ _ _ _ _ _ _ _ _ _)
      | (with_reducible exact impl_Allowed.mono _ _ _)
      | (with_reducible exact impl_ChangeRegions.mono _ _ _ _ _)
      | (with_reducible exact impl_CutRegions.mono _ _ _ _)
      | (with_reducible exact impl_PutRegion.mono _ _ _ _ _)
      | (with_reducible exact impl_RegionsOk.mono _ _)
      | (with_reducible exact spec_Allowed.mono _ _ _)
      | (with_reducible exact spec_ChangeRegions.mono _ _ _ _ _)
      | (with_reducible exact spec_CutRegions.mono _ _ _ _)
      | (with_reducible exact spec_DrawPlaces.mono _ _)
      | (with_reducible exact spec_DrawRightRegions.mono _ _)
      | (with_reducible exact spec_PutRegion.mono _ _ _ _ _)
      | (with_reducible exact LeO.refl _)
      | (with_reducible exact LeO.none _)
      | (with_reducible refine LeO.ite ?_ ?_)
      | (with_reducible refine LeO.bind ?_ (fun _ => ?_))
      | exact ih0 _ _ _ _ _ _ _ _ _ _ _
      | exact ih1 _ _ _ _ _ _ _ _ _ _ _
      | exact ih2 _ _ _ _ _ _ _ _ _ _ _ _ _ _
      | exact ih3 _ _ _ _ _ _ _ _ _ _ _ _ _ _ _
      | exact ih4 _ _ _ _ _ _ _ _ _ _ _ _ _ _ _ _ _ _
      | exact ih5 _ _ _ _ _ _ _ _ _ _ _ _ _ _ _ _ _ _ _
      | exact ih6 _ _ _ _ _ _ _ _ _ _ _ _ _ _ _ _ _ _ _
      | exact ih7 _ _ _ _ _ _ _ _ _ _ _ _ _ _ _ _ _ _ _
      | exact impl_Allowed.mono _ _ _
      | exact impl_ChangeRegions.mono _ _ _ _ _
      | exact impl_CutRegions.mono _ _ _ _
      | exact impl_PutRegion.mono _ _ _ _ _
      | exact impl_RegionsOk.mono _ _
      | exact spec_Allowed.mono _ _ _
      | exact spec_ChangeRegions.mono _ _ _ _ _
      | exact spec_CutRegions.mono _ _ _ _
      | exact spec_DrawPlaces.mono _ _
      | exact spec_DrawRightRegions.mono _ _
      | exact spec_PutRegion.mono _ _ _ _ _
      | exact LeO.none _
      | refine LeO.ite ?_ ?_
      | refine LeO.bind ?_ (fun _ => ?_)
    · intro y0 y1 y2 y3 y4 y5 y6 y7 y8 y9 y10 y11 y12 y13 y14 y15 y16 y17 y18
      unfold laws_FnRegions.j5
      repeat' first
      | (with_reducible exact ih0 _ _ _ _ _ _ _ _ _ _ _)
      | (with_reducible exact ih1 _ _ _ _ _ _ _ _ _ _ _)
      | (with_reducible exact ih2 _ _ _ _ _ _ _ _ _ _ _ _ _ _)
      | (with_reducible exact ih3 _ _ _ _ _ _ _ _ _ _ _ _ _ _ _)
      | (with_reducible exact ih4 _ _ _ _ _ _ _ _ _ _ _ _ _ _ _ _ _ _)
      | (with_reducible exact ih5 _ _ _ _ _ _ _ _ _ _ _ _ _ _ _ _ _ _ _)
      | (with_reducible exact ih6 _ _ _ _ _ _ _ _ _ _ _ _ _ _ _ _ _ _ _)
      | (with_reducible exact ih7 _ _ _ _ _ _ _ _ _ _ _ _ _ _ _ _ _ _ _)
      | (with_reducible exact impl_Allowed.mono _ _ _)
      | (with_reducible exact impl_ChangeRegions.mono _ _ _ _ _)
      | (with_reducible exact impl_CutRegions.mono _ _ _ _)
      | (with_reducible exact impl_PutRegion.mono _ _ _ _ _)
      | (with_reducible exact impl_RegionsOk.mono _ _)
      | (with_reducible exact spec_Allowed.mono _ _ _)
      | (with_reducible exact spec_ChangeRegions.mono _ _ _ _ _)
      | (with_reducible exact spec_CutRegions.mono _ _ _ _)
      | (with_reducible exact spec_DrawPlaces.mono _ _)
      | (with_reducible exact spec_DrawRightRegions.mono _ _)
      | (with_reducible exact spec_PutRegion.mono _ _ _ _ _)
      | (with_reducible exact LeO.refl _)
      | (with_reducible exact LeO.none _)
      | (with_reducible refine LeO.ite ?_ ?_)
      | (with_reducible refine LeO.bind ?_ (fun _ => ?_))
      | exact ih0 _ _ _ _ _ _ _ _ _ _ _
      | exact ih1 _ _ _ _ _ _ _ _ _ _ _
      | exact ih2 _ _ _ _ _ _ _ _ _ _ _ _ _ _
      | exact ih3 _ _ _ _ _ _ _ _ _ _ _ _ _ _ _
      | exact ih4 _ _ _ _ _ _ _ _ _ _ _ _ _ _ _ _ _ _
      | exact ih5 _ _ _ _ _ _ _ _ _ _ _ _ _ _ _ _ _ _ _
      | exact ih6 _ _ _ _ _ _ _ _ _ _ _ _ _ _ _ _ _ _ _
      | exact ih7 _ _ _ _ _ _ _ _ _ _ _ _ _ _ _ _ _ _ _
      | exact impl_Allowed.mono _ _ _
      | exact impl_ChangeRegions.mono _ _ _ _ _
      | exact impl_CutRegions.mono _ _ _ _
      | exact impl_PutRegion.mono _ _ _ _ _
      | exact impl_RegionsOk.mono _ _
      | exact spec_Allowed.mono _ _ _
      | exact spec_ChangeRegions.mono _ _ _ _ _
      | exact spec_CutRegions.mono _ _ _ _
      | exact spec_DrawPlaces.mono _ _
      | exact spec_DrawRightRegions.mono _ _
      | exact spec_PutRegion.mono _ _ _ _ _
      | exact LeO.none _
      | refine LeO.ite ?_ ?_
      | refine LeO.bind ?_ (fun _ => ?_)
    · intro y0 y1 y2 y3 y4 y5 y6 y7 y8 y9 y10 y11 y12 y13 y14 y15 y16 y17 y18
      unfold laws_FnRegions.j6
      repeat' first
      | (with_reducible exact ih0 _ _ _ _ _ _ _ _ _ _ _)
      | (with_reducible exact ih1 _ _ _ _ _ _ _ _ _ _ _)
      | (with_reducible exact ih2 _ _ _ _ _ _ _ _ _ _ _ _ _ _)
      | (with_reducible exact ih3 _ _ _ _ _ _ _ _ _ _ _ _ _ _ _)
      | (with_reducible exact ih4 _ _ _ _ _ _ _ _ _ _ _ _ _ _ _ _ _ _)
      | (with_reducible exact ih5 _ _ _ _ _ _ _ _ _ _ _ _ _ _ _ _ _ _ _)
      | (with_reducible exact ih6 _ _ _ _ _ _ _ _ _ _ _ _ _ _ _ _ _ _ _)
      | (with_reducible exact ih7 _ _ _ _ _ _ _ _ _ _ _ _ _ _ _ _ _ _ _)
      | (with_reducible exact impl_Allowed.mono _ _ _)
      | (with_reducible exact impl_ChangeRegions.mono _ _ _ _ _)
      | (with_reducible exact impl_CutRegions.mono _ _ _ _)
      | (with_reducible exact impl_PutRegion.mono _ _ _ _ _)
      | (with_reducible exact impl_RegionsOk.mono _ _)
      | (with_reducible exact spec_Allowed.mono _ _ _)
      | (with_reducible exact spec_ChangeRegions.mono _ _ _ _ _)
      | (with_reducible exact spec_CutRegions.mono _ _ _ _)
      | (with_reducible exact spec_DrawPlaces.mono _ _)
      | (with_reducible exact spec_DrawRightRegions.mono _ _)
      | (with_reducible exact spec_PutRegion.mono _ _ _ _ _)
      | (with_reducible exact LeO.refl _)
      | (with_reducible exact LeO.none _)
      | (with_reducible refine LeO.ite ?_ ?_)
      | (with_reducible refine LeO.bind ?_ (fun _ => ?_))
      | exact ih0 _ _ _ _ _ _ _ _ _ _ _
      | exact ih1 _ _ _ _ _ _ _ _ _ _ _
      | exact ih2 _ _ _ _ _ _ _ _ _ _ _ _ _ _
      | exact ih3 _ _ _ _ _ _ _ _ _ _ _ _ _ _ _
      | exact ih4 _ _ _ _ _ _ _ _ _ _ _ _ _ _ _ _ _ _
      | exact ih5 _ _ _ _ _ _ _ _ _ _ _ _ _ _ _ _ _ _ _
      | exact ih6 _ _ _ _ _ _ _ _ _ _ _ _ _ _ _ _ _ _ _
      | exact ih7 _ _ _ _ _ _ _ _ _ _ _ _ _ _ _ _ _ _ _
      | exact impl_Allowed.mono _ _ _
      | exact impl_ChangeRegions.mono _ _ _ _ _
      | exact impl_CutRegions.mono _ _ _ _
      | exact impl_PutRegion.mono _ _ _ _ _
      | exact impl_RegionsOk.mono _ _
      | exact spec_Allowed.mono _ _ _
      | exact spec_ChangeRegions.mono _ _ _ _ _
      | exact spec_CutRegions.mono _ _ _ _
      | exact spec_DrawPlaces.mono _ _
      | exact spec_DrawRightRegions.mono _ _
      | exact spec_PutRegion.mono _ _ _ _ _
      | exact LeO.none _
      | refine LeO.ite ?_ ?_
      | refine LeO.bind ?_ (fun _ => ?_)
    · intro y0 y1 y2 y3 y4 y5 y6 y7 y8 y9 y10 y11 y12 y13 y14 y15 y16 y17 y18
      unfold laws_FnRegions.j7
      repeat' first
      | (with_reducible exact ih0 _ _ _ _ _ _ _ _ _ _ _)
      | (with_reducible exact ih1 _ _ _ _ _ _ _ _ _ _ _)
      | (with_reducible exact ih2 _ _ _ _ _ _ _ _ _ _ _ _ _ _)
      | (with_reducible exact ih3 _ _ _ _ _ _ _ _ _ _ _ _ _ _ _)
      | (with_reducible exact ih4 _ _ _ _ _ _ _ _ _ _ _ _ _ _ _ _ _ _)
      | (with_reducible exact ih5 _ _ _ _ _ _ _ _ _ _ _ _ _ _ _ _ _ _ _)
      | (with_reducible exact ih6 _ _ _ _ _ _ _ _ _ _ _ _ _ _ _ _ _ _ _)
      | (with_reducible exact ih7 _ _ _ _ _ _ _ _ _ _ _ _ _ _ _ _ _ _ _)
      | (with_reducible exact impl_Allowed.mono _ _ _)
      | (with_reducible exact impl_ChangeRegions.mono _ _ _ _ _)
      | (with_reducible exact impl_CutRegions.mono _ _ _ _)
      | (with_reducible exact impl_PutRegion.mono _ _ _ _ _)
      | (with_reducible exact impl_RegionsOk.mono _ _)
      | (with_reducible exact spec_Allowed.mono _ _ _)
      | (with_reducible exact spec_ChangeRegions.mono _ _ _ _ _)
      | (with_reducible exact spec_CutRegions.mono _ _ _ _)
      | (with_reducible exact spec_DrawPlaces.mono _ _)
      | (with_reducible exact spec_DrawRightRegions.mono _ _)
      | (with_reducible exact spec_PutRegion.mono _ _ _ _ _)
      | (with_reducible exact LeO.refl _)
      | (with_reducible exact LeO.none _)
      | (with_reducible refine LeO.ite ?_ ?_)
      | (with_reducible refine LeO.bind ?_ (fun _ => ?_))
      | exact ih0 _ _ _ _ _ _ _ _ _ _ _
      | exact ih1 _ _ _ _ _ _ _ _ _ _ _
      | exact ih2 _ _ _ _ _ _ _ _ _ _ _ _ _ _
      | exact ih3 _ _ _ _ _ _ _ _ _ _ _ _ _ _ _
      | exact ih4 _ _ _ _ _ _ _ _ _ _ _ _ _ _ _ _ _ _
      | exact ih5 _ _ _ _ _ _ _ _ _ _ _ _ _ _ _ _ _ _ _
      | exact ih6 _ _ _ _ _ _ _ _ _ _ _ _ _ _ _ _ _ _ _
      | exact ih7 _ _ _ _ _ _ _ _ _ _ _ _ _ _ _ _ _ _ _
      | exact impl_Allowed.mono _ _ _
      | exact impl_ChangeRegions.mono _ _ _ _ _
      | exact impl_CutRegions.mono _ _ _ _
      | exact impl_PutRegion.mono _ _ _ _ _
      | exact impl_RegionsOk.mono _ _
      | exact spec_Allowed.mono _ _ _
      | exact spec_ChangeRegions.mono _ _ _ _ _
      | exact spec_CutRegions.mono _ _ _ _
      | exact spec_DrawPlaces.mono _ _
      | exact spec_DrawRightRegions.mono _ _
      | exact spec_PutRegion.mono _ _ _ _ _
      | exact LeO.none _
      | refine LeO.ite ?_ ?_
      | refine LeO.bind ?_ (fun _ => ?_)
theorem laws_FnRegions.mono : ∀ a0 k, LeO (laws_FnRegions.f k a0) (laws_FnRegions.f (k + 1) a0) := by
  intro a0 k
  obtain ⟨ih0, ih1, ih2, ih3, ih4, ih5, ih6, ih7⟩ := laws_FnRegions.mono_l k
  unfold laws_FnRegions.f
  repeat' first
      | (with_reducible exact ih0 _ _ _ _ _ _ _ _ _ _ _)
      | (with_reducible exact ih1 _ _ _ _ _ _ _ _ _ _ _)
      | (with_reducible exact ih2 _ _ _ _ _ _ _ _ _ _ _ _ _ _)
      | (with_reducible exact ih3 _ _ _ _ _ _ _ _ _ _ _ _ _ _ _)
      | (with_reducible exact ih4 _ _ _ _ _ _ _ _ _ _ _ _ _ _ _ _ _ _)
      | (with_reducible exact ih5 _ _ _ _ _ _ _ _ _ _ _ _ _ _ _ _ _ _ _)
      | (with_reducible exact ih6 _ _ _ _ _ _ _ _ _ _ _ _ _ _ _ _ _ _ _)
      | (with_reducible exact ih7 _ _ _ _ _ _ _ _ _ _ _ _ _ _ _ _ _ _ _)
      | (with_reducible exact impl_Allowed.mono _ _ _)
      | (with_reducible exact impl_ChangeRegions.mono _ _ _ _ _)
      | (with_reducible exact impl_CutRegions.mono _ _ _ _)
      | (with_reducible exact impl_PutRegion.mono _ _ _ _ _)
      | (with_reducible exact impl_RegionsOk.mono _ _)
      | (with_reducible exact spec_Allowed.mono _ _ _)
      | (with_reducible exact spec_ChangeRegions.mono _ _ _ _ _)
      | (with_reducible exact spec_CutRegions.mono _ _ _ _)
      | (with_reducible exact spec_DrawPlaces.mono _ _)
      | (with_reducible exact spec_DrawRightRegions.mono _ _)
      | (with_reducible exact spec_PutRegion.mono _ _ _ _ _)
      | (with_reducible exact LeO.refl _)
      | (with_reducible exact LeO.none _)
      | (with_reducible refine LeO.ite ?_ ?_)
      | (with_reducible refine LeO.bind ?_ (fun _ => ?_))
      | exact ih0 _ _ _ _ _ _ _ _ _ _ _
      | exact ih1 _ _ _ _ _ _ _ _ _ _ _
      | exact ih2 _ _ _ _ _ _ _ _ _ _ _ _ _ _
      | exact ih3 _ _ _ _ _ _ _ _ _ _ _ _ _ _ _
      | exact ih4 _ _ _ _ _ _ _ _ _ _ _ _ _ _ _ _ _ _
      | exact ih5 _ _ _ _ _ _ _ _ _ _ _ _ _ _ _ _ _ _ _
      | exact ih6 _ _ _ _ _ _ _ _ _ _ _ _ _ _ _ _ _ _ _
      | exact ih7 _ _ _ _ _ _ _ _ _ _ _ _ _ _ _ _ _ _ _
      | exact impl_Allowed.mono _ _ _
      | exact impl_ChangeRegions.mono _ _ _ _ _
      | exact impl_CutRegions.mono _ _ _ _
      | exact impl_PutRegion.mono _ _ _ _ _
      | exact impl_RegionsOk.mono _ _
      | exact spec_Allowed.mono _ _ _
      | exact spec_ChangeRegions.mono _ _ _ _ _
      | exact spec_CutRegions.mono _ _ _ _
      | exact spec_DrawPlaces.mono _ _
      | exact spec_DrawRightRegions.mono _ _
      | exact spec_PutRegion.mono _ _ _ _ _
      | exact LeO.none _
      | refine LeO.ite ?_ ?_
      | refine LeO.bind ?_ (fun _ => ?_)
set_option maxHeartbeats 8000000 in
set_option maxRecDepth 100000 in
theorem laws_FnRegions.calls (k : Nat) (A0 : Option Addr) (c0 : Nat) (l0 : List Int) (r : Bool) (w : World) (hr0 : Kd.C (Kd.int .u8) w A0 l0.length l0) (hc0 : l0.length ≤ c0) (h : laws_FnRegions.f k l0 = some r) :
    Calls Try.prog 13 #[.slice A0 l0.length c0] w fun e w' => e = .returned (.bool r) ∧ Below w.heap.size w w' := by
  have hu70 := Try.underlying70
  have HR0 := Aside0.mk hr0
  have HC0 := Aside0.mk hc0
  clear hr0 hc0
  have HB := Aside0.mk (Below.refl w.heap.size w)
  have H : ((laws_big.f l0).bind fun t1160 => (if t1160 = true then (some true) else ((spec_DrawRightRegions.f k l0).bind fun t1161 => ((spec_DrawPlaces.f k l0).bind fun t1164 => (if 0 < (t1164.length : Int) then (if 1 < (t1164.length : Int) then (if 2 < (t1164.length : Int) then ((impl_PutRegion.f k t1161 (Int.tmod (rd t1164 0) 60) (wrap64 ((wrap64 ((Int.tmod (rd t1164 0) 60) + 1)) + (Int.tmod (rd t1164 1) 4))) ((Int.tmod (rd t1164 2) 2) == 0)).bind fun bt1170 => ((impl_CutRegions.f k t1161 (Int.tmod (rd t1164 0) 60) (wrap64 ((wrap64 ((Int.tmod (rd t1164 0) 60) + 1)) + (Int.tmod (rd t1164 1) 4)))).bind fun bt1174 => ((impl_ChangeRegions.f k t1161 (Int.tmod (rd t1164 0) 60) (wrap64 ((wrap64 ((Int.tmod (rd t1164 0) 60) + 1)) + (Int.tmod (rd t1164 1) 4))) ((Int.tmod (rd t1164 2) 2) == 0)).bind fun bt1178 => ((spec_PutRegion.f k t1161 (Int.tmod (rd t1164 0) 60) (wrap64 ((wrap64 ((Int.tmod (rd t1164 0) 60) + 1)) + (Int.tmod (rd t1164 1) 4))) ((Int.tmod (rd t1164 2) 2) == 0)).bind fun bt1182 => ((spec_CutRegions.f k t1161 (Int.tmod (rd t1164 0) 60) (wrap64 ((wrap64 ((Int.tmod (rd t1164 0) 60) + 1)) + (Int.tmod (rd t1164 1) 4)))).bind fun bt1186 => ((spec_ChangeRegions.f k t1161 (Int.tmod (rd t1164 0) 60) (wrap64 ((wrap64 ((Int.tmod (rd t1164 0) 60) + 1)) + (Int.tmod (rd t1164 1) 4))) ((Int.tmod (rd t1164 2) 2) == 0)).bind fun bt1190 => (if (bt1170.2 != bt1182.2) = true then (laws_FnRegions.j0 k t1161 (Int.tmod (rd t1164 0) 60) (wrap64 ((wrap64 ((Int.tmod (rd t1164 0) 60) + 1)) + (Int.tmod (rd t1164 1) 4))) ((Int.tmod (rd t1164 2) 2) == 0) bt1170.1 bt1170.2 bt1174.1 bt1174.2 bt1178.1 bt1178.2 true) else (if (bt1174.2 != bt1186.2) = true then (laws_FnRegions.j0 k t1161 (Int.tmod (rd t1164 0) 60) (wrap64 ((wrap64 ((Int.tmod (rd t1164 0) 60) + 1)) + (Int.tmod (rd t1164 1) 4))) ((Int.tmod (rd t1164 2) 2) == 0) bt1170.1 bt1170.2 bt1174.1 bt1174.2 bt1178.1 bt1178.2 true) else (if (bt1178.2 != bt1190.2) = true then (laws_FnRegions.j0 k t1161 (Int.tmod (rd t1164 0) 60) (wrap64 ((wrap64 ((Int.tmod (rd t1164 0) 60) + 1)) + (Int.tmod (rd t1164 1) 4))) ((Int.tmod (rd t1164 2) 2) == 0) bt1170.1 bt1170.2 bt1174.1 bt1174.2 bt1178.1 bt1178.2 true) else ((impl_RegionsOk.f k t1161).bind fun t1194 => (laws_FnRegions.j0 k t1161 (Int.tmod (rd t1164 0) 60) (wrap64 ((wrap64 ((Int.tmod (rd t1164 0) 60) + 1)) + (Int.tmod (rd t1164 1) 4))) ((Int.tmod (rd t1164 2) 2) == 0) bt1170.1 bt1170.2 bt1174.1 bt1174.2 bt1178.1 bt1178.2 (!t1194)))))))))))) else (none)) else (none)) else (none)))))) = some r := h
  clear h
  replace H := Option.bind_eq_some_iff.mp H
  obtain ⟨t1160, A20, H⟩ := H
  replace H : (if t1160 = true then (some true) else ((spec_DrawRightRegions.f k l0).bind fun t1161 => ((spec_DrawPlaces.f k l0).bind fun t1164 => (if 0 < (t1164.length : Int) then (if 1 < (t1164.length : Int) then (if 2 < (t1164.length : Int) then ((impl_PutRegion.f k t1161 (Int.tmod (rd t1164 0) 60) (wrap64 ((wrap64 ((Int.tmod (rd t1164 0) 60) + 1)) + (Int.tmod (rd t1164 1) 4))) ((Int.tmod (rd t1164 2) 2) == 0)).bind fun bt1170 => ((impl_CutRegions.f k t1161 (Int.tmod (rd t1164 0) 60) (wrap64 ((wrap64 ((Int.tmod (rd t1164 0) 60) + 1)) + (Int.tmod (rd t1164 1) 4)))).bind fun bt1174 => ((impl_ChangeRegions.f k t1161 (Int.tmod (rd t1164 0) 60) (wrap64 ((wrap64 ((Int.tmod (rd t1164 0) 60) + 1)) + (Int.tmod (rd t1164 1) 4))) ((Int.tmod (rd t1164 2) 2) == 0)).bind fun bt1178 => ((spec_PutRegion.f k t1161 (Int.tmod (rd t1164 0) 60) (wrap64 ((wrap64 ((Int.tmod (rd t1164 0) 60) + 1)) + (Int.tmod (rd t1164 1) 4))) ((Int.tmod (rd t1164 2) 2) == 0)).bind fun bt1182 => ((spec_CutRegions.f k t1161 (Int.tmod (rd t1164 0) 60) (wrap64 ((wrap64 ((Int.tmod (rd t1164 0) 60) + 1)) + (Int.tmod (rd t1164 1) 4)))).bind fun bt1186 => ((spec_ChangeRegions.f k t1161 (Int.tmod (rd t1164 0) 60) (wrap64 ((wrap64 ((Int.tmod (rd t1164 0) 60) + 1)) + (Int.tmod (rd t1164 1) 4))) ((Int.tmod (rd t1164 2) 2) == 0)).bind fun bt1190 => (if (bt1170.2 != bt1182.2) = true then (laws_FnRegions.j0 k t1161 (Int.tmod (rd t1164 0) 60) (wrap64 ((wrap64 ((Int.tmod (rd t1164 0) 60) + 1)) + (Int.tmod (rd t1164 1) 4))) ((Int.tmod (rd t1164 2) 2) == 0) bt1170.1 bt1170.2 bt1174.1 bt1174.2 bt1178.1 bt1178.2 true) else (if (bt1174.2 != bt1186.2) = true then (laws_FnRegions.j0 k t1161 (Int.tmod (rd t1164 0) 60) (wrap64 ((wrap64 ((Int.tmod (rd t1164 0) 60) + 1)) + (Int.tmod (rd t1164 1) 4))) ((Int.tmod (rd t1164 2) 2) == 0) bt1170.1 bt1170.2 bt1174.1 bt1174.2 bt1178.1 bt1178.2 true) else (if (bt1178.2 != bt1190.2) = true then (laws_FnRegions.j0 k t1161 (Int.tmod (rd t1164 0) 60) (wrap64 ((wrap64 ((Int.tmod (rd t1164 0) 60) + 1)) + (Int.tmod (rd t1164 1) 4))) ((Int.tmod (rd t1164 2) 2) == 0) bt1170.1 bt1170.2 bt1174.1 bt1174.2 bt1178.1 bt1178.2 true) else ((impl_RegionsOk.f k t1161).bind fun t1194 => (laws_FnRegions.j0 k t1161 (Int.tmod (rd t1164 0) 60) (wrap64 ((wrap64 ((Int.tmod (rd t1164 0) 60) + 1)) + (Int.tmod (rd t1164 1) 4))) ((Int.tmod (rd t1164 2) 2) == 0) bt1170.1 bt1170.2 bt1174.1 bt1174.2 bt1178.1 bt1178.2 (!t1194)))))))))))) else (none)) else (none)) else (none))))) = some r := H
  have A2 := Aside0.mk A20
  clear A20
  by_cases c3 : t1160 = true
  · subst c3
    have H1 : (some true) = some r := by rw [if_pos rfl] at H; exact H
    clear H
    have H := H1
    clear H1
    obtain rfl := Option.some.inj H
    go_enter Try.func13, Try.ntmps13
    go_wp2_with (first | ((with_reducible refine gate_callee (f := 30) rfl ?_); refine goesL_ (some 32) rfl rfl Try.func30 (by kernel_rfl) rfl #[.slice A0 l0.length c0] rfl (by (try simp only [List.map_toArray, List.map_cons, List.map_nil]); first | done | rfl | (simp only [List.length_drop, List.length_take]; rfl)) ?_; (with_reducible refine (laws_big.calls _ _ l0 true _ ?side1 ?side2 A2.out).mono ?_); (case side1 => repeat (first | exact HR0.out | (with_reducible refine Kd.C_alloc ?_ _) | (with_reducible refine Kd.C_drewN ?_ _) | (with_reducible refine Kd.C_drew ?_))); (case side2 => exact HC0.out); rintro e w' ⟨rfl, ⟨nd, rfl⟩⟩; refine ⟨_, rfl, ?_⟩))
    go_ret
    exact ⟨by first | rfl | (simp [errW_none, errW_some] <;> rfl) | (simp [*, errW_none, errW_some] <;> rfl), by repeat (first | (with_reducible first | exact HB.out | apply below_alloc | apply pw_below_drewN | apply below_drew1) | exact HB.out)⟩
  · replace c3 := Bool.eq_false_iff.mpr c3
    subst c3
    have H1 : ((spec_DrawRightRegions.f k l0).bind fun t1161 => ((spec_DrawPlaces.f k l0).bind fun t1164 => (if 0 < (t1164.length : Int) then (if 1 < (t1164.length : Int) then (if 2 < (t1164.length : Int) then ((impl_PutRegion.f k t1161 (Int.tmod (rd t1164 0) 60) (wrap64 ((wrap64 ((Int.tmod (rd t1164 0) 60) + 1)) + (Int.tmod (rd t1164 1) 4))) ((Int.tmod (rd t1164 2) 2) == 0)).bind fun bt1170 => ((impl_CutRegions.f k t1161 (Int.tmod (rd t1164 0) 60) (wrap64 ((wrap64 ((Int.tmod (rd t1164 0) 60) + 1)) + (Int.tmod (rd t1164 1) 4)))).bind fun bt1174 => ((impl_ChangeRegions.f k t1161 (Int.tmod (rd t1164 0) 60) (wrap64 ((wrap64 ((Int.tmod (rd t1164 0) 60) + 1)) + (Int.tmod (rd t1164 1) 4))) ((Int.tmod (rd t1164 2) 2) == 0)).bind fun bt1178 => ((spec_PutRegion.f k t1161 (Int.tmod (rd t1164 0) 60) (wrap64 ((wrap64 ((Int.tmod (rd t1164 0) 60) + 1)) + (Int.tmod (rd t1164 1) 4))) ((Int.tmod (rd t1164 2) 2) == 0)).bind fun bt1182 => ((spec_CutRegions.f k t1161 (Int.tmod (rd t1164 0) 60) (wrap64 ((wrap64 ((Int.tmod (rd t1164 0) 60) + 1)) + (Int.tmod (rd t1164 1) 4)))).bind fun bt1186 => ((spec_ChangeRegions.f k t1161 (Int.tmod (rd t1164 0) 60) (wrap64 ((wrap64 ((Int.tmod (rd t1164 0) 60) + 1)) + (Int.tmod (rd t1164 1) 4))) ((Int.tmod (rd t1164 2) 2) == 0)).bind fun bt1190 => (if (bt1170.2 != bt1182.2) = true then (laws_FnRegions.j0 k t1161 (Int.tmod (rd t1164 0) 60) (wrap64 ((wrap64 ((Int.tmod (rd t1164 0) 60) + 1)) + (Int.tmod (rd t1164 1) 4))) ((Int.tmod (rd t1164 2) 2) == 0) bt1170.1 bt1170.2 bt1174.1 bt1174.2 bt1178.1 bt1178.2 true) else (if (bt1174.2 != bt1186.2) = true then (laws_FnRegions.j0 k t1161 (Int.tmod (rd t1164 0) 60) (wrap64 ((wrap64 ((Int.tmod (rd t1164 0) 60) + 1)) + (Int.tmod (rd t1164 1) 4))) ((Int.tmod (rd t1164 2) 2) == 0) bt1170.1 bt1170.2 bt1174.1 bt1174.2 bt1178.1 bt1178.2 true) else (if (bt1178.2 != bt1190.2) = true then (laws_FnRegions.j0 k t1161 (Int.tmod (rd t1164 0) 60) (wrap64 ((wrap64 ((Int.tmod (rd t1164 0) 60) + 1)) + (Int.tmod (rd t1164 1) 4))) ((Int.tmod (rd t1164 2) 2) == 0) bt1170.1 bt1170.2 bt1174.1 bt1174.2 bt1178.1 bt1178.2 true) else ((impl_RegionsOk.f k t1161).bind fun t1194 => (laws_FnRegions.j0 k t1161 (Int.tmod (rd t1164 0) 60) (wrap64 ((wrap64 ((Int.tmod (rd t1164 0) 60) + 1)) + (Int.tmod (rd t1164 1) 4))) ((Int.tmod (rd t1164 2) 2) == 0) bt1170.1 bt1170.2 bt1174.1 bt1174.2 bt1178.1 bt1178.2 (!t1194)))))))))))) else (none)) else (none)) else (none)))) = some r := by rw [if_neg (show ¬ (false = true) by decide)] at H; exact H
    clear H
    have H := H1
    clear H1
    replace H := Option.bind_eq_some_iff.mp H
    obtain ⟨t1161, A40, H⟩ := H
    replace H : ((spec_DrawPlaces.f k l0).bind fun t1164 => (if 0 < (t1164.length : Int) then (if 1 < (t1164.length : Int) then (if 2 < (t1164.length : Int) then ((impl_PutRegion.f k t1161 (Int.tmod (rd t1164 0) 60) (wrap64 ((wrap64 ((Int.tmod (rd t1164 0) 60) + 1)) + (Int.tmod (rd t1164 1) 4))) ((Int.tmod (rd t1164 2) 2) == 0)).bind fun bt1170 => ((impl_CutRegions.f k t1161 (Int.tmod (rd t1164 0) 60) (wrap64 ((wrap64 ((Int.tmod (rd t1164 0) 60) + 1)) + (Int.tmod (rd t1164 1) 4)))).bind fun bt1174 => ((impl_ChangeRegions.f k t1161 (Int.tmod (rd t1164 0) 60) (wrap64 ((wrap64 ((Int.tmod (rd t1164 0) 60) + 1)) + (Int.tmod (rd t1164 1) 4))) ((Int.tmod (rd t1164 2) 2) == 0)).bind fun bt1178 => ((spec_PutRegion.f k t1161 (Int.tmod (rd t1164 0) 60) (wrap64 ((wrap64 ((Int.tmod (rd t1164 0) 60) + 1)) + (Int.tmod (rd t1164 1) 4))) ((Int.tmod (rd t1164 2) 2) == 0)).bind fun bt1182 => ((spec_CutRegions.f k t1161 (Int.tmod (rd t1164 0) 60) (wrap64 ((wrap64 ((Int.tmod (rd t1164 0) 60) + 1)) + (Int.tmod (rd t1164 1) 4)))).bind fun bt1186 => ((spec_ChangeRegions.f k t1161 (Int.tmod (rd t1164 0) 60) (wrap64 ((wrap64 ((Int.tmod (rd t1164 0) 60) + 1)) + (Int.tmod (rd t1164 1) 4))) ((Int.tmod (rd t1164 2) 2) == 0)).bind fun bt1190 => (if (bt1170.2 != bt1182.2) = true then (laws_FnRegions.j0 k t1161 (Int.tmod (rd t1164 0) 60) (wrap64 ((wrap64 ((Int.tmod (rd t1164 0) 60) + 1)) + (Int.tmod (rd t1164 1) 4))) ((Int.tmod (rd t1164 2) 2) == 0) bt1170.1 bt1170.2 bt1174.1 bt1174.2 bt1178.1 bt1178.2 true) else (if (bt1174.2 != bt1186.2) = true then (laws_FnRegions.j0 k t1161 (Int.tmod (rd t1164 0) 60) (wrap64 ((wrap64 ((Int.tmod (rd t1164 0) 60) + 1)) + (Int.tmod (rd t1164 1) 4))) ((Int.tmod (rd t1164 2) 2) == 0) bt1170.1 bt1170.2 bt1174.1 bt1174.2 bt1178.1 bt1178.2 true) else (if (bt1178.2 != bt1190.2) = true then (laws_FnRegions.j0 k t1161 (Int.tmod (rd t1164 0) 60) (wrap64 ((wrap64 ((Int.tmod (rd t1164 0) 60) + 1)) + (Int.tmod (rd t1164 1) 4))) ((Int.tmod (rd t1164 2) 2) == 0) bt1170.1 bt1170.2 bt1174.1 bt1174.2 bt1178.1 bt1178.2 true) else ((impl_RegionsOk.f k t1161).bind fun t1194 => (laws_FnRegions.j0 k t1161 (Int.tmod (rd t1164 0) 60) (wrap64 ((wrap64 ((Int.tmod (rd t1164 0) 60) + 1)) + (Int.tmod (rd t1164 1) 4))) ((Int.tmod (rd t1164 2) 2) == 0) bt1170.1 bt1170.2 bt1174.1 bt1174.2 bt1178.1 bt1178.2 (!t1194)))))))))))) else (none)) else (none)) else (none))) = some r := H
    have A4 := Aside0.mk A40
    clear A40
    replace H := Option.bind_eq_some_iff.mp H
    obtain ⟨t1164, A50, H⟩ := H
    replace H : (if 0 < (t1164.length : Int) then (if 1 < (t1164.length : Int) then (if 2 < (t1164.length : Int) then ((impl_PutRegion.f k t1161 (Int.tmod (rd t1164 0) 60) (wrap64 ((wrap64 ((Int.tmod (rd t1164 0) 60) + 1)) + (Int.tmod (rd t1164 1) 4))) ((Int.tmod (rd t1164 2) 2) == 0)).bind fun bt1170 => ((impl_CutRegions.f k t1161 (Int.tmod (rd t1164 0) 60) (wrap64 ((wrap64 ((Int.tmod (rd t1164 0) 60) + 1)) + (Int.tmod (rd t1164 1) 4)))).bind fun bt1174 => ((impl_ChangeRegions.f k t1161 (Int.tmod (rd t1164 0) 60) (wrap64 ((wrap64 ((Int.tmod (rd t1164 0) 60) + 1)) + (Int.tmod (rd t1164 1) 4))) ((Int.tmod (rd t1164 2) 2) == 0)).bind fun bt1178 => ((spec_PutRegion.f k t1161 (Int.tmod (rd t1164 0) 60) (wrap64 ((wrap64 ((Int.tmod (rd t1164 0) 60) + 1)) + (Int.tmod (rd t1164 1) 4))) ((Int.tmod (rd t1164 2) 2) == 0)).bind fun bt1182 => ((spec_CutRegions.f k t1161 (Int.tmod (rd t1164 0) 60) (wrap64 ((wrap64 ((Int.tmod (rd t1164 0) 60) + 1)) + (Int.tmod (rd t1164 1) 4)))).bind fun bt1186 => ((spec_ChangeRegions.f k t1161 (Int.tmod (rd t1164 0) 60) (wrap64 ((wrap64 ((Int.tmod (rd t1164 0) 60) + 1)) + (Int.tmod (rd t1164 1) 4))) ((Int.tmod (rd t1164 2) 2) == 0)).bind fun bt1190 => (if (bt1170.2 != bt1182.2) = true then (laws_FnRegions.j0 k t1161 (Int.tmod (rd t1164 0) 60) (wrap64 ((wrap64 ((Int.tmod (rd t1164 0) 60) + 1)) + (Int.tmod (rd t1164 1) 4))) ((Int.tmod (rd t1164 2) 2) == 0) bt1170.1 bt1170.2 bt1174.1 bt1174.2 bt1178.1 bt1178.2 true) else (if (bt1174.2 != bt1186.2) = true then (laws_FnRegions.j0 k t1161 (Int.tmod (rd t1164 0) 60) (wrap64 ((wrap64 ((Int.tmod (rd t1164 0) 60) + 1)) + (Int.tmod (rd t1164 1) 4))) ((Int.tmod (rd t1164 2) 2) == 0) bt1170.1 bt1170.2 bt1174.1 bt1174.2 bt1178.1 bt1178.2 true) else (if (bt1178.2 != bt1190.2) = true then (laws_FnRegions.j0 k t1161 (Int.tmod (rd t1164 0) 60) (wrap64 ((wrap64 ((Int.tmod (rd t1164 0) 60) + 1)) + (Int.tmod (rd t1164 1) 4))) ((Int.tmod (rd t1164 2) 2) == 0) bt1170.1 bt1170.2 bt1174.1 bt1174.2 bt1178.1 bt1178.2 true) else ((impl_RegionsOk.f k t1161).bind fun t1194 => (laws_FnRegions.j0 k t1161 (Int.tmod (rd t1164 0) 60) (wrap64 ((wrap64 ((Int.tmod (rd t1164 0) 60) + 1)) + (Int.tmod (rd t1164 1) 4))) ((Int.tmod (rd t1164 2) 2) == 0) bt1170.1 bt1170.2 bt1174.1 bt1174.2 bt1178.1 bt1178.2 (!t1194)))))))))))) else (none)) else (none)) else (none)) = some r := H
    have A5 := Aside0.mk A50
    clear A50
    by_cases c6 : 0 < (t1164.length : Int)
    · rw [if_pos c6] at H
      have c6b0 : decide (0 < (t1164.length : Int)) = true := decide_eq_true c6
      have c6b1 : decide (0 < t1164.length) = true := decide_eq_true (by omega)
      clear c6
      by_cases c7 : 1 < (t1164.length : Int)
      · rw [if_pos c7] at H
        have c7b0 : decide (1 < (t1164.length : Int)) = true := decide_eq_true c7
        have c7b1 : decide (1 < t1164.length) = true := decide_eq_true (by omega)
        clear c7
        by_cases c8 : 2 < (t1164.length : Int)
        · rw [if_pos c8] at H
          have c8b0 : decide (2 < (t1164.length : Int)) = true := decide_eq_true c8
          have c8b1 : decide (2 < t1164.length) = true := decide_eq_true (by omega)
          clear c8
          replace H := Option.bind_eq_some_iff.mp H
          obtain ⟨⟨t1170, t1173⟩, A90, H⟩ := H
          replace H : ((impl_CutRegions.f k t1161 (Int.tmod (rd t1164 0) 60) (wrap64 ((wrap64 ((Int.tmod (rd t1164 0) 60) + 1)) + (Int.tmod (rd t1164 1) 4)))).bind fun bt1174 => ((impl_ChangeRegions.f k t1161 (Int.tmod (rd t1164 0) 60) (wrap64 ((wrap64 ((Int.tmod (rd t1164 0) 60) + 1)) + (Int.tmod (rd t1164 1) 4))) ((Int.tmod (rd t1164 2) 2) == 0)).bind fun bt1178 => ((spec_PutRegion.f k t1161 (Int.tmod (rd t1164 0) 60) (wrap64 ((wrap64 ((Int.tmod (rd t1164 0) 60) + 1)) + (Int.tmod (rd t1164 1) 4))) ((Int.tmod (rd t1164 2) 2) == 0)).bind fun bt1182 => ((spec_CutRegions.f k t1161 (Int.tmod (rd t1164 0) 60) (wrap64 ((wrap64 ((Int.tmod (rd t1164 0) 60) + 1)) + (Int.tmod (rd t1164 1) 4)))).bind fun bt1186 => ((spec_ChangeRegions.f k t1161 (Int.tmod (rd t1164 0) 60) (wrap64 ((wrap64 ((Int.tmod (rd t1164 0) 60) + 1)) + (Int.tmod (rd t1164 1) 4))) ((Int.tmod (rd t1164 2) 2) == 0)).bind fun bt1190 => (if (t1173 != bt1182.2) = true then (laws_FnRegions.j0 k t1161 (Int.tmod (rd t1164 0) 60) (wrap64 ((wrap64 ((Int.tmod (rd t1164 0) 60) + 1)) + (Int.tmod (rd t1164 1) 4))) ((Int.tmod (rd t1164 2) 2) == 0) t1170 t1173 bt1174.1 bt1174.2 bt1178.1 bt1178.2 true) else (if (bt1174.2 != bt1186.2) = true then (laws_FnRegions.j0 k t1161 (Int.tmod (rd t1164 0) 60) (wrap64 ((wrap64 ((Int.tmod (rd t1164 0) 60) + 1)) + (Int.tmod (rd t1164 1) 4))) ((Int.tmod (rd t1164 2) 2) == 0) t1170 t1173 bt1174.1 bt1174.2 bt1178.1 bt1178.2 true) else (if (bt1178.2 != bt1190.2) = true then (laws_FnRegions.j0 k t1161 (Int.tmod (rd t1164 0) 60) (wrap64 ((wrap64 ((Int.tmod (rd t1164 0) 60) + 1)) + (Int.tmod (rd t1164 1) 4))) ((Int.tmod (rd t1164 2) 2) == 0) t1170 t1173 bt1174.1 bt1174.2 bt1178.1 bt1178.2 true) else ((impl_RegionsOk.f k t1161).bind fun t1194 => (laws_FnRegions.j0 k t1161 (Int.tmod (rd t1164 0) 60) (wrap64 ((wrap64 ((Int.tmod (rd t1164 0) 60) + 1)) + (Int.tmod (rd t1164 1) 4))) ((Int.tmod (rd t1164 2) 2) == 0) t1170 t1173 bt1174.1 bt1174.2 bt1178.1 bt1178.2 (!t1194))))))))))) = some r := H
          have A9 := Aside0.mk A90
          clear A90
          replace H := Option.bind_eq_some_iff.mp H
          obtain ⟨⟨t1174, t1175⟩, A100, H⟩ := H
          replace H : ((impl_ChangeRegions.f k t1161 (Int.tmod (rd t1164 0) 60) (wrap64 ((wrap64 ((Int.tmod (rd t1164 0) 60) + 1)) + (Int.tmod (rd t1164 1) 4))) ((Int.tmod (rd t1164 2) 2) == 0)).bind fun bt1178 => ((spec_PutRegion.f k t1161 (Int.tmod (rd t1164 0) 60) (wrap64 ((wrap64 ((Int.tmod (rd t1164 0) 60) + 1)) + (Int.tmod (rd t1164 1) 4))) ((Int.tmod (rd t1164 2) 2) == 0)).bind fun bt1182 => ((spec_CutRegions.f k t1161 (Int.tmod (rd t1164 0) 60) (wrap64 ((wrap64 ((Int.tmod (rd t1164 0) 60) + 1)) + (Int.tmod (rd t1164 1) 4)))).bind fun bt1186 => ((spec_ChangeRegions.f k t1161 (Int.tmod (rd t1164 0) 60) (wrap64 ((wrap64 ((Int.tmod (rd t1164 0) 60) + 1)) + (Int.tmod (rd t1164 1) 4))) ((Int.tmod (rd t1164 2) 2) == 0)).bind fun bt1190 => (if (t1173 != bt1182.2) = true then (laws_FnRegions.j0 k t1161 (Int.tmod (rd t1164 0) 60) (wrap64 ((wrap64 ((Int.tmod (rd t1164 0) 60) + 1)) + (Int.tmod (rd t1164 1) 4))) ((Int.tmod (rd t1164 2) 2) == 0) t1170 t1173 t1174 t1175 bt1178.1 bt1178.2 true) else (if (t1175 != bt1186.2) = true then (laws_FnRegions.j0 k t1161 (Int.tmod (rd t1164 0) 60) (wrap64 ((wrap64 ((Int.tmod (rd t1164 0) 60) + 1)) + (Int.tmod (rd t1164 1) 4))) ((Int.tmod (rd t1164 2) 2) == 0) t1170 t1173 t1174 t1175 bt1178.1 bt1178.2 true) else (if (bt1178.2 != bt1190.2) = true then (laws_FnRegions.j0 k t1161 (Int.tmod (rd t1164 0) 60) (wrap64 ((wrap64 ((Int.tmod (rd t1164 0) 60) + 1)) + (Int.tmod (rd t1164 1) 4))) ((Int.tmod (rd t1164 2) 2) == 0) t1170 t1173 t1174 t1175 bt1178.1 bt1178.2 true) else ((impl_RegionsOk.f k t1161).bind fun t1194 => (laws_FnRegions.j0 k t1161 (Int.tmod (rd t1164 0) 60) (wrap64 ((wrap64 ((Int.tmod (rd t1164 0) 60) + 1)) + (Int.tmod (rd t1164 1) 4))) ((Int.tmod (rd t1164 2) 2) == 0) t1170 t1173 t1174 t1175 bt1178.1 bt1178.2 (!t1194)))))))))) = some r := H
          have A10 := Aside0.mk A100
          clear A100
          replace H := Option.bind_eq_some_iff.mp H
          obtain ⟨⟨t1178, t1179⟩, A110, H⟩ := H
          replace H : ((spec_PutRegion.f k t1161 (Int.tmod (rd t1164 0) 60) (wrap64 ((wrap64 ((Int.tmod (rd t1164 0) 60) + 1)) + (Int.tmod (rd t1164 1) 4))) ((Int.tmod (rd t1164 2) 2) == 0)).bind fun bt1182 => ((spec_CutRegions.f k t1161 (Int.tmod (rd t1164 0) 60) (wrap64 ((wrap64 ((Int.tmod (rd t1164 0) 60) + 1)) + (Int.tmod (rd t1164 1) 4)))).bind fun bt1186 => ((spec_ChangeRegions.f k t1161 (Int.tmod (rd t1164 0) 60) (wrap64 ((wrap64 ((Int.tmod (rd t1164 0) 60) + 1)) + (Int.tmod (rd t1164 1) 4))) ((Int.tmod (rd t1164 2) 2) == 0)).bind fun bt1190 => (if (t1173 != bt1182.2) = true then (laws_FnRegions.j0 k t1161 (Int.tmod (rd t1164 0) 60) (wrap64 ((wrap64 ((Int.tmod (rd t1164 0) 60) + 1)) + (Int.tmod (rd t1164 1) 4))) ((Int.tmod (rd t1164 2) 2) == 0) t1170 t1173 t1174 t1175 t1178 t1179 true) else (if (t1175 != bt1186.2) = true then (laws_FnRegions.j0 k t1161 (Int.tmod (rd t1164 0) 60) (wrap64 ((wrap64 ((Int.tmod (rd t1164 0) 60) + 1)) + (Int.tmod (rd t1164 1) 4))) ((Int.tmod (rd t1164 2) 2) == 0) t1170 t1173 t1174 t1175 t1178 t1179 true) else (if (t1179 != bt1190.2) = true then (laws_FnRegions.j0 k t1161 (Int.tmod (rd t1164 0) 60) (wrap64 ((wrap64 ((Int.tmod (rd t1164 0) 60) + 1)) + (Int.tmod (rd t1164 1) 4))) ((Int.tmod (rd t1164 2) 2) == 0) t1170 t1173 t1174 t1175 t1178 t1179 true) else ((impl_RegionsOk.f k t1161).bind fun t1194 => (laws_FnRegions.j0 k t1161 (Int.tmod (rd t1164 0) 60) (wrap64 ((wrap64 ((Int.tmod (rd t1164 0) 60) + 1)) + (Int.tmod (rd t1164 1) 4))) ((Int.tmod (rd t1164 2) 2) == 0) t1170 t1173 t1174 t1175 t1178 t1179 (!t1194))))))))) = some r := H
          have A11 := Aside0.mk A110
          clear A110
          replace H := Option.bind_eq_some_iff.mp H
          obtain ⟨⟨t1182, t1185⟩, A120, H⟩ := H
          replace H : ((spec_CutRegions.f k t1161 (Int.tmod (rd t1164 0) 60) (wrap64 ((wrap64 ((Int.tmod (rd t1164 0) 60) + 1)) + (Int.tmod (rd t1164 1) 4)))).bind fun bt1186 => ((spec_ChangeRegions.f k t1161 (Int.tmod (rd t1164 0) 60) (wrap64 ((wrap64 ((Int.tmod (rd t1164 0) 60) + 1)) + (Int.tmod (rd t1164 1) 4))) ((Int.tmod (rd t1164 2) 2) == 0)).bind fun bt1190 => (if (t1173 != t1185) = true then (laws_FnRegions.j0 k t1161 (Int.tmod (rd t1164 0) 60) (wrap64 ((wrap64 ((Int.tmod (rd t1164 0) 60) + 1)) + (Int.tmod (rd t1164 1) 4))) ((Int.tmod (rd t1164 2) 2) == 0) t1170 t1173 t1174 t1175 t1178 t1179 true) else (if (t1175 != bt1186.2) = true then (laws_FnRegions.j0 k t1161 (Int.tmod (rd t1164 0) 60) (wrap64 ((wrap64 ((Int.tmod (rd t1164 0) 60) + 1)) + (Int.tmod (rd t1164 1) 4))) ((Int.tmod (rd t1164 2) 2) == 0) t1170 t1173 t1174 t1175 t1178 t1179 true) else (if (t1179 != bt1190.2) = true then (laws_FnRegions.j0 k t1161 (Int.tmod (rd t1164 0) 60) (wrap64 ((wrap64 ((Int.tmod (rd t1164 0) 60) + 1)) + (Int.tmod (rd t1164 1) 4))) ((Int.tmod (rd t1164 2) 2) == 0) t1170 t1173 t1174 t1175 t1178 t1179 true) else ((impl_RegionsOk.f k t1161).bind fun t1194 => (laws_FnRegions.j0 k t1161 (Int.tmod (rd t1164 0) 60) (wrap64 ((wrap64 ((Int.tmod (rd t1164 0) 60) + 1)) + (Int.tmod (rd t1164 1) 4))) ((Int.tmod (rd t1164 2) 2) == 0) t1170 t1173 t1174 t1175 t1178 t1179 (!t1194)))))))) = some r := H
          have A12 := Aside0.mk A120
          clear A120
          replace H := Option.bind_eq_some_iff.mp H
          obtain ⟨⟨t1186, t1187⟩, A130, H⟩ := H
          replace H : ((spec_ChangeRegions.f k t1161 (Int.tmod (rd t1164 0) 60) (wrap64 ((wrap64 ((Int.tmod (rd t1164 0) 60) + 1)) + (Int.tmod (rd t1164 1) 4))) ((Int.tmod (rd t1164 2) 2) == 0)).bind fun bt1190 => (if (t1173 != t1185) = true then (laws_FnRegions.j0 k t1161 (Int.tmod (rd t1164 0) 60) (wrap64 ((wrap64 ((Int.tmod (rd t1164 0) 60) + 1)) + (Int.tmod (rd t1164 1) 4))) ((Int.tmod (rd t1164 2) 2) == 0) t1170 t1173 t1174 t1175 t1178 t1179 true) else (if (t1175 != t1187) = true then (laws_FnRegions.j0 k t1161 (Int.tmod (rd t1164 0) 60) (wrap64 ((wrap64 ((Int.tmod (rd t1164 0) 60) + 1)) + (Int.tmod (rd t1164 1) 4))) ((Int.tmod (rd t1164 2) 2) == 0) t1170 t1173 t1174 t1175 t1178 t1179 true) else (if (t1179 != bt1190.2) = true then (laws_FnRegions.j0 k t1161 (Int.tmod (rd t1164 0) 60) (wrap64 ((wrap64 ((Int.tmod (rd t1164 0) 60) + 1)) + (Int.tmod (rd t1164 1) 4))) ((Int.tmod (rd t1164 2) 2) == 0) t1170 t1173 t1174 t1175 t1178 t1179 true) else ((impl_RegionsOk.f k t1161).bind fun t1194 => (laws_FnRegions.j0 k t1161 (Int.tmod (rd t1164 0) 60) (wrap64 ((wrap64 ((Int.tmod (rd t1164 0) 60) + 1)) + (Int.tmod (rd t1164 1) 4))) ((Int.tmod (rd t1164 2) 2) == 0) t1170 t1173 t1174 t1175 t1178 t1179 (!t1194))))))) = some r := H
          have A13 := Aside0.mk A130
          clear A130
          replace H := Option.bind_eq_some_iff.mp H
          obtain ⟨⟨t1190, t1191⟩, A140, H⟩ := H
          replace H : (if (t1173 != t1185) = true then (laws_FnRegions.j0 k t1161 (Int.tmod (rd t1164 0) 60) (wrap64 ((wrap64 ((Int.tmod (rd t1164 0) 60) + 1)) + (Int.tmod (rd t1164 1) 4))) ((Int.tmod (rd t1164 2) 2) == 0) t1170 t1173 t1174 t1175 t1178 t1179 true) else (if (t1175 != t1187) = true then (laws_FnRegions.j0 k t1161 (Int.tmod (rd t1164 0) 60) (wrap64 ((wrap64 ((Int.tmod (rd t1164 0) 60) + 1)) + (Int.tmod (rd t1164 1) 4))) ((Int.tmod (rd t1164 2) 2) == 0) t1170 t1173 t1174 t1175 t1178 t1179 true) else (if (t1179 != t1191) = true then (laws_FnRegions.j0 k t1161 (Int.tmod (rd t1164 0) 60) (wrap64 ((wrap64 ((Int.tmod (rd t1164 0) 60) + 1)) + (Int.tmod (rd t1164 1) 4))) ((Int.tmod (rd t1164 2) 2) == 0) t1170 t1173 t1174 t1175 t1178 t1179 true) else ((impl_RegionsOk.f k t1161).bind fun t1194 => (laws_FnRegions.j0 k t1161 (Int.tmod (rd t1164 0) 60) (wrap64 ((wrap64 ((Int.tmod (rd t1164 0) 60) + 1)) + (Int.tmod (rd t1164 1) 4))) ((Int.tmod (rd t1164 2) 2) == 0) t1170 t1173 t1174 t1175 t1178 t1179 (!t1194)))))) = some r := H
          have A14 := Aside0.mk A140
          clear A140
          have HC15 := Aside0.mk H
          clear H
          go_enter Try.func13, Try.ntmps13
          go_upto_region 14 with (first | ((with_reducible refine gate_callee (f := 30) rfl ?_); refine goesL_ (some 32) rfl rfl Try.func30 (by kernel_rfl) rfl #[.slice A0 l0.length c0] rfl (by (try simp only [List.map_toArray, List.map_cons, List.map_nil]); first | done | rfl | (simp only [List.length_drop, List.length_take]; rfl)) ?_; (with_reducible refine (laws_big.calls _ _ l0 false _ ?side1 ?side2 A2.out).mono ?_); (case side1 => repeat (first | exact HR0.out | (with_reducible refine Kd.C_alloc ?_ _) | (with_reducible refine Kd.C_drewN ?_ _) | (with_reducible refine Kd.C_drew ?_))); (case side2 => exact HC0.out); rintro e w' ⟨rfl, ⟨nd, rfl⟩⟩; refine ⟨_, rfl, ?_⟩) | ((with_reducible refine gate_callee (f := 62) rfl ?_); refine goesL_ (some 34) rfl rfl Try.func62 (by kernel_rfl) rfl #[.slice A0 l0.length c0] rfl (by (try simp only [List.map_toArray, List.map_cons, List.map_nil]); first | done | rfl | (simp only [List.length_drop, List.length_take]; rfl)) ?_; (with_reducible refine (spec_DrawRightRegions.calls k _ _ l0 t1161 _ ?side1 ?side2 A4.out).mono ?_); (case side1 => repeat (first | exact HR0.out | (with_reducible refine Kd.C_alloc ?_ _) | (with_reducible refine Kd.C_drewN ?_ _) | (with_reducible refine Kd.C_drew ?_))); (case side2 => exact HC0.out); rintro e w16 ⟨v1162, rfl, ho0, hb⟩; refine ⟨_, rfl, ?_⟩; have n0_ := Aside0.mk (Kd.R_lower ho0 (below_size (by repeat (first | (with_reducible first | exact HB.out | apply below_alloc | apply pw_below_drewN | apply below_drew1) | exact HB.out)))); have n1_ := Aside0.mk (below_step (by repeat (first | (with_reducible first | exact HB.out | apply below_alloc | apply pw_below_drewN | apply below_drew1) | exact HB.out)) hb); clear HB; have HO1163 := n0_; have HB := n1_; clear n0_ n1_; (try clear hb); (try clear hb2); (try clear hk); (try clear hi); (try clear ho0)) | ((with_reducible refine gate_callee (f := 63) rfl ?_); refine goesL_ (some 36) rfl rfl Try.func63 (by kernel_rfl) rfl #[.slice A0 l0.length c0] rfl (by (try simp only [List.map_toArray, List.map_cons, List.map_nil]); first | done | rfl | (simp only [List.length_drop, List.length_take]; rfl)) ?_; (with_reducible refine (spec_DrawPlaces.calls k _ _ l0 t1164 _ ?side1 ?side2 A5.out).mono ?_); (case side1 => repeat (first | exact (Kd.C_below HR0.out HB.out) | (with_reducible refine Kd.C_alloc ?_ _) | (with_reducible refine Kd.C_drewN ?_ _) | (with_reducible refine Kd.C_drew ?_))); (case side2 => exact HC0.out); rintro e w17 ⟨v1165, rfl, ho0, hb⟩; refine ⟨_, rfl, ?_⟩; have n0_ := Aside0.mk (Kd.R_below (by (with_reducible repeat (first | apply Kd.R_alloc | apply Kd.R_drewN | apply Kd.R_drew)); exact HO1163.out) hb); have n1_ := Aside0.mk (Kd.R_lower ho0 (below_size (by repeat (first | (with_reducible first | exact HB.out | apply below_alloc | apply pw_below_drewN | apply below_drew1) | exact HB.out)))); have n2_ := Aside0.mk (below_step (by repeat (first | (with_reducible first | exact HB.out | apply below_alloc | apply pw_below_drewN | apply below_drew1) | exact HB.out)) hb); clear HO1163; clear HB; have HO1163 := n0_; have HO1166 := n1_; have HB := n2_; clear n0_ n1_ n2_; (try clear hb); (try clear hb2); (try clear hk); (try clear hi); (try clear ho0); obtain ⟨Ao18, co18, eo18⟩ := Kd.R_slice HO1166.out; subst eo18; have p1167 : 0 ≤ (0 : Int) := (by omega); have q1167 : 0 < (t1164.length : Int) := of_decide_eq_true (by first | (with_reducible assumption) | assumption); obtain ⟨ad1167, e1167, hx1167_0⟩ := Kd.at_int (Kd.R_reads' HO1166.out).2.2 0 p1167 q1167; cases e1167; have qi1167 : (0 < t1164.length) = True := eq_true (by omega); (try rw [show ((0 : Int)).toNat = 0 from rfl] at hx1167_0); (try rw [Addr.add_zero'] at hx1167_0); replace p1167 := eq_true p1167; replace q1167 := eq_true q1167; have p1168 : 0 ≤ (1 : Int) := (by omega); have q1168 : 1 < (t1164.length : Int) := of_decide_eq_true (by first | (with_reducible assumption) | assumption); obtain ⟨ad1168, e1168, hx1168_0⟩ := Kd.at_int (Kd.R_reads' HO1166.out).2.2 1 p1168 q1168; obtain rfl : ad1167 = ad1168 := (by injection e1168); (try simp only [show (1 : Int).toNat = 1 from rfl, Nat.reduceMul, Nat.reduceEqDiff, Go.Addr.add, ↓reduceIte] at hx1168_0); have qi1168 : (1 < t1164.length) = True := eq_true (by omega); (try rw [show ((1 : Int)).toNat = 1 from rfl] at hx1168_0); replace p1168 := eq_true p1168; replace q1168 := eq_true q1168; have p1169 : 0 ≤ (2 : Int) := (by omega); have q1169 : 2 < (t1164.length : Int) := of_decide_eq_true (by first | (with_reducible assumption) | assumption); obtain ⟨ad1169, e1169, hx1169_0⟩ := Kd.at_int (Kd.R_reads' HO1166.out).2.2 2 p1169 q1169; obtain rfl : ad1167 = ad1169 := (by injection e1169); (try simp only [show (2 : Int).toNat = 2 from rfl, Nat.reduceMul, Nat.reduceEqDiff, Go.Addr.add, ↓reduceIte] at hx1169_0); have qi1169 : (2 < t1164.length) = True := eq_true (by omega); (try rw [show ((2 : Int)).toNat = 2 from rfl] at hx1169_0); replace p1169 := eq_true p1169; replace q1169 := eq_true q1169; obtain ⟨Ao19, co19, eo19⟩ := Kd.R_slice HO1163.out; subst eo19) | ((with_reducible refine gate_callee (f := 53) rfl ?_); refine goesL_ (some 59) rfl rfl Try.func53 (by kernel_rfl) rfl #[.slice Ao19 t1161.length co19, .agg #[.int .i64 (Int.tmod (rd t1164 0) 60), .int .i64 (wrap64 ((wrap64 ((Int.tmod (rd t1164 0) 60) + 1)) + (Int.tmod (rd t1164 1) 4))), .bool ((Int.tmod (rd t1164 2) 2) == 0)]] rfl (by (try simp only [List.map_toArray, List.map_cons, List.map_nil]); first | done | rfl | (simp only [List.length_drop, List.length_take]; rfl)) ?_; (with_reducible refine (impl_PutRegion.calls k _ _ t1161 (Int.tmod (rd t1164 0) 60) (wrap64 ((wrap64 ((Int.tmod (rd t1164 0) 60) + 1)) + (Int.tmod (rd t1164 1) 4))) ((Int.tmod (rd t1164 2) 2) == 0) t1170 t1173 _ ?side1 ?side2 A9.out).mono ?_); (case side1 => repeat (first | exact (Kd.R_reads' HO1163.out).2.2 | (with_reducible refine Kd.C_alloc ?_ _) | (with_reducible refine Kd.C_drewN ?_ _) | (with_reducible refine Kd.C_drew ?_))); (case side2 => exact (Kd.R_reads' HO1163.out).2.1); rintro e w20 ⟨v1171, rfl, ho0, hb⟩; refine ⟨_, rfl, ?_⟩; have n0_ := Aside0.mk (Kd.R_elder' (by (with_reducible repeat (first | apply Kd.R_alloc | apply Kd.R_drewN | apply Kd.R_drew)); exact HO1163.out) (Kd.R_base ho0) hb); have n1_ := Aside0.mk (Kd.R_below (by (with_reducible repeat (first | apply Kd.R_alloc | apply Kd.R_drewN | apply Kd.R_drew)); exact HO1166.out) hb); have n2_ := Aside0.mk (Kd.R_lower (Kd.R_new' ho0 (Kd.R_lt (by (with_reducible repeat (first | apply Kd.R_alloc | apply Kd.R_drewN | apply Kd.R_drew)); exact HO1163.out))) (below_size (by repeat (first | (with_reducible first | exact HB.out | apply below_alloc | apply pw_below_drewN | apply below_drew1) | exact HB.out)))); have n3_ := Aside0.mk (below_step (by repeat (first | (with_reducible first | exact HB.out | apply below_alloc | apply pw_below_drewN | apply below_drew1) | exact HB.out)) hb); clear HO1163; clear HO1166; clear HB; have HO1163 := n0_; have HO1166 := n1_; have HO1172 := n2_; have HB := n3_; clear n0_ n1_ n2_ n3_; (try clear hb); (try clear hb2); (try clear hk); (try clear hi); (try clear ho0)) | ((with_reducible refine gate_callee (f := 26) rfl ?_); refine goesL_ (some 66) rfl rfl Try.func26 (by kernel_rfl) rfl #[.slice Ao19 t1161.length co19, .int .i64 (Int.tmod (rd t1164 0) 60), .int .i64 (wrap64 ((wrap64 ((Int.tmod (rd t1164 0) 60) + 1)) + (Int.tmod (rd t1164 1) 4)))] rfl (by (try simp only [List.map_toArray, List.map_cons, List.map_nil]); first | done | rfl | (simp only [List.length_drop, List.length_take]; rfl)) ?_; (with_reducible refine (impl_CutRegions.calls k _ _ t1161 (Int.tmod (rd t1164 0) 60) (wrap64 ((wrap64 ((Int.tmod (rd t1164 0) 60) + 1)) + (Int.tmod (rd t1164 1) 4))) t1174 t1175 _ ?side1 ?side2 A10.out).mono ?_); (case side1 => repeat (first | exact (Kd.R_reads' HO1163.out).2.2 | (with_reducible refine Kd.C_alloc ?_ _) | (with_reducible refine Kd.C_drewN ?_ _) | (with_reducible refine Kd.C_drew ?_))); (case side2 => exact (Kd.R_reads' HO1163.out).2.1); rintro e w21 ⟨v1176, rfl, ho0, hb⟩; refine ⟨_, rfl, ?_⟩; have n0_ := Aside0.mk (Kd.R_elder' (by (with_reducible repeat (first | apply Kd.R_alloc | apply Kd.R_drewN | apply Kd.R_drew)); exact HO1163.out) (Kd.R_base ho0) hb); have n1_ := Aside0.mk (Kd.R_below (by (with_reducible repeat (first | apply Kd.R_alloc | apply Kd.R_drewN | apply Kd.R_drew)); exact HO1166.out) hb); have n2_ := Aside0.mk (Kd.R_elder' (by (with_reducible repeat (first | apply Kd.R_alloc | apply Kd.R_drewN | apply Kd.R_drew)); exact HO1172.out) (Kd.R_base ho0) hb); have n3_ := Aside0.mk (Kd.R_lower (Kd.R_new' (Kd.R_new' ho0 (Kd.R_lt (by (with_reducible repeat (first | apply Kd.R_alloc | apply Kd.R_drewN | apply Kd.R_drew)); exact HO1163.out))) (Kd.R_lt (by (with_reducible repeat (first | apply Kd.R_alloc | apply Kd.R_drewN | apply Kd.R_drew)); exact HO1172.out))) (below_size (by repeat (first | (with_reducible first | exact HB.out | apply below_alloc | apply pw_below_drewN | apply below_drew1) | exact HB.out)))); have n4_ := Aside0.mk (below_step (by repeat (first | (with_reducible first | exact HB.out | apply below_alloc | apply pw_below_drewN | apply below_drew1) | exact HB.out)) hb); clear HO1163; clear HO1166; clear HO1172; clear HB; have HO1163 := n0_; have HO1166 := n1_; have HO1172 := n2_; have HO1177 := n3_; have HB := n4_; clear n0_ n1_ n2_ n3_ n4_; (try clear hb); (try clear hb2); (try clear hk); (try clear hi); (try clear ho0)) | ((with_reducible refine gate_callee (f := 50) rfl ?_); refine goesL_ (some 74) rfl rfl Try.func50 (by kernel_rfl) rfl #[.slice Ao19 t1161.length co19, .int .i64 (Int.tmod (rd t1164 0) 60), .int .i64 (wrap64 ((wrap64 ((Int.tmod (rd t1164 0) 60) + 1)) + (Int.tmod (rd t1164 1) 4))), .bool ((Int.tmod (rd t1164 2) 2) == 0)] rfl (by (try simp only [List.map_toArray, List.map_cons, List.map_nil]); first | done | rfl | (simp only [List.length_drop, List.length_take]; rfl)) ?_; (with_reducible refine (impl_ChangeRegions.calls k _ _ t1161 (Int.tmod (rd t1164 0) 60) (wrap64 ((wrap64 ((Int.tmod (rd t1164 0) 60) + 1)) + (Int.tmod (rd t1164 1) 4))) ((Int.tmod (rd t1164 2) 2) == 0) t1178 t1179 _ ?side1 ?side2 A11.out).mono ?_); (case side1 => repeat (first | exact (Kd.R_reads' HO1163.out).2.2 | (with_reducible refine Kd.C_alloc ?_ _) | (with_reducible refine Kd.C_drewN ?_ _) | (with_reducible refine Kd.C_drew ?_))); (case side2 => exact (Kd.R_reads' HO1163.out).2.1); rintro e w22 ⟨v1180, rfl, ho0, hb⟩; refine ⟨_, rfl, ?_⟩; have n0_ := Aside0.mk (Kd.R_elder' (by (with_reducible repeat (first | apply Kd.R_alloc | apply Kd.R_drewN | apply Kd.R_drew)); exact HO1163.out) (Kd.R_base ho0) hb); have n1_ := Aside0.mk (Kd.R_below (by (with_reducible repeat (first | apply Kd.R_alloc | apply Kd.R_drewN | apply Kd.R_drew)); exact HO1166.out) hb); have n2_ := Aside0.mk (Kd.R_elder' (by (with_reducible repeat (first | apply Kd.R_alloc | apply Kd.R_drewN | apply Kd.R_drew)); exact HO1172.out) (Kd.R_base ho0) hb); have n3_ := Aside0.mk (Kd.R_elder' (by (with_reducible repeat (first | apply Kd.R_alloc | apply Kd.R_drewN | apply Kd.R_drew)); exact HO1177.out) (Kd.R_base ho0) hb); have n4_ := Aside0.mk (Kd.R_lower (Kd.R_new' (Kd.R_new' (Kd.R_new' ho0 (Kd.R_lt (by (with_reducible repeat (first | apply Kd.R_alloc | apply Kd.R_drewN | apply Kd.R_drew)); exact HO1163.out))) (Kd.R_lt (by (with_reducible repeat (first | apply Kd.R_alloc | apply Kd.R_drewN | apply Kd.R_drew)); exact HO1172.out))) (Kd.R_lt (by (with_reducible repeat (first | apply Kd.R_alloc | apply Kd.R_drewN | apply Kd.R_drew)); exact HO1177.out))) (below_size (by repeat (first | (with_reducible first | exact HB.out | apply below_alloc | apply pw_below_drewN | apply below_drew1) | exact HB.out)))); have n5_ := Aside0.mk (below_step (by repeat (first | (with_reducible first | exact HB.out | apply below_alloc | apply pw_below_drewN | apply below_drew1) | exact HB.out)) hb); clear HO1163; clear HO1166; clear HO1172; clear HO1177; clear HB; have HO1163 := n0_; have HO1166 := n1_; have HO1172 := n2_; have HO1177 := n3_; have HO1181 := n4_; have HB := n5_; clear n0_ n1_ n2_ n3_ n4_ n5_; (try clear hb); (try clear hb2); (try clear hk); (try clear hi); (try clear ho0)) | ((with_reducible refine gate_callee (f := 51) rfl ?_); refine goesL_ (some 83) rfl rfl Try.func51 (by kernel_rfl) rfl #[.slice Ao19 t1161.length co19, .agg #[.int .i64 (Int.tmod (rd t1164 0) 60), .int .i64 (wrap64 ((wrap64 ((Int.tmod (rd t1164 0) 60) + 1)) + (Int.tmod (rd t1164 1) 4))), .bool ((Int.tmod (rd t1164 2) 2) == 0)]] rfl (by (try simp only [List.map_toArray, List.map_cons, List.map_nil]); first | done | rfl | (simp only [List.length_drop, List.length_take]; rfl)) ?_; (with_reducible refine (spec_PutRegion.calls k _ _ t1161 (Int.tmod (rd t1164 0) 60) (wrap64 ((wrap64 ((Int.tmod (rd t1164 0) 60) + 1)) + (Int.tmod (rd t1164 1) 4))) ((Int.tmod (rd t1164 2) 2) == 0) t1182 t1185 _ ?side1 ?side2 A12.out).mono ?_); (case side1 => repeat (first | exact (Kd.R_reads' HO1163.out).2.2 | (with_reducible refine Kd.C_alloc ?_ _) | (with_reducible refine Kd.C_drewN ?_ _) | (with_reducible refine Kd.C_drew ?_))); (case side2 => exact (Kd.R_reads' HO1163.out).2.1); rintro e w23 ⟨v1183, rfl, ho0, hb⟩; refine ⟨_, rfl, ?_⟩; have n0_ := Aside0.mk (Kd.R_elder' (by (with_reducible repeat (first | apply Kd.R_alloc | apply Kd.R_drewN | apply Kd.R_drew)); exact HO1163.out) (Kd.R_base ho0) hb); have n1_ := Aside0.mk (Kd.R_below (by (with_reducible repeat (first | apply Kd.R_alloc | apply Kd.R_drewN | apply Kd.R_drew)); exact HO1166.out) hb); have n2_ := Aside0.mk (Kd.R_elder' (by (with_reducible repeat (first | apply Kd.R_alloc | apply Kd.R_drewN | apply Kd.R_drew)); exact HO1172.out) (Kd.R_base ho0) hb); have n3_ := Aside0.mk (Kd.R_elder' (by (with_reducible repeat (first | apply Kd.R_alloc | apply Kd.R_drewN | apply Kd.R_drew)); exact HO1177.out) (Kd.R_base ho0) hb); have n4_ := Aside0.mk (Kd.R_elder' (by (with_reducible repeat (first | apply Kd.R_alloc | apply Kd.R_drewN | apply Kd.R_drew)); exact HO1181.out) (Kd.R_base ho0) hb); have n5_ := Aside0.mk (Kd.R_lower (Kd.R_new' (Kd.R_new' (Kd.R_new' (Kd.R_new' ho0 (Kd.R_lt (by (with_reducible repeat (first | apply Kd.R_alloc | apply Kd.R_drewN | apply Kd.R_drew)); exact HO1163.out))) (Kd.R_lt (by (with_reducible repeat (first | apply Kd.R_alloc | apply Kd.R_drewN | apply Kd.R_drew)); exact HO1172.out))) (Kd.R_lt (by (with_reducible repeat (first | apply Kd.R_alloc | apply Kd.R_drewN | apply Kd.R_drew)); exact HO1177.out))) (Kd.R_lt (by (with_reducible repeat (first | apply Kd.R_alloc | apply Kd.R_drewN | apply Kd.R_drew)); exact HO1181.out))) (below_size (by repeat (first | (with_reducible first | exact HB.out | apply below_alloc | apply pw_below_drewN | apply below_drew1) | exact HB.out)))); have n6_ := Aside0.mk (below_step (by repeat (first | (with_reducible first | exact HB.out | apply below_alloc | apply pw_below_drewN | apply below_drew1) | exact HB.out)) hb); clear HO1163; clear HO1166; clear HO1172; clear HO1177; clear HO1181; clear HB; have HO1163 := n0_; have HO1166 := n1_; have HO1172 := n2_; have HO1177 := n3_; have HO1181 := n4_; have HO1184 := n5_; have HB := n6_; clear n0_ n1_ n2_ n3_ n4_ n5_ n6_; (try clear hb); (try clear hb2); (try clear hk); (try clear hi); (try clear ho0)) | ((with_reducible refine gate_callee (f := 24) rfl ?_); refine goesL_ (some 90) rfl rfl Try.func24 (by kernel_rfl) rfl #[.slice Ao19 t1161.length co19, .int .i64 (Int.tmod (rd t1164 0) 60), .int .i64 (wrap64 ((wrap64 ((Int.tmod (rd t1164 0) 60) + 1)) + (Int.tmod (rd t1164 1) 4)))] rfl (by (try simp only [List.map_toArray, List.map_cons, List.map_nil]); first | done | rfl | (simp only [List.length_drop, List.length_take]; rfl)) ?_; (with_reducible refine (spec_CutRegions.calls k _ _ t1161 (Int.tmod (rd t1164 0) 60) (wrap64 ((wrap64 ((Int.tmod (rd t1164 0) 60) + 1)) + (Int.tmod (rd t1164 1) 4))) t1186 t1187 _ ?side1 ?side2 A13.out).mono ?_); (case side1 => repeat (first | exact (Kd.R_reads' HO1163.out).2.2 | (with_reducible refine Kd.C_alloc ?_ _) | (with_reducible refine Kd.C_drewN ?_ _) | (with_reducible refine Kd.C_drew ?_))); (case side2 => exact (Kd.R_reads' HO1163.out).2.1); rintro e w24 ⟨v1188, rfl, ho0, hb⟩; refine ⟨_, rfl, ?_⟩; have n0_ := Aside0.mk (Kd.R_elder' (by (with_reducible repeat (first | apply Kd.R_alloc | apply Kd.R_drewN | apply Kd.R_drew)); exact HO1163.out) (Kd.R_base ho0) hb); have n1_ := Aside0.mk (Kd.R_below (by (with_reducible repeat (first | apply Kd.R_alloc | apply Kd.R_drewN | apply Kd.R_drew)); exact HO1166.out) hb); have n2_ := Aside0.mk (Kd.R_elder' (by (with_reducible repeat (first | apply Kd.R_alloc | apply Kd.R_drewN | apply Kd.R_drew)); exact HO1172.out) (Kd.R_base ho0) hb); have n3_ := Aside0.mk (Kd.R_elder' (by (with_reducible repeat (first | apply Kd.R_alloc | apply Kd.R_drewN | apply Kd.R_drew)); exact HO1177.out) (Kd.R_base ho0) hb); have n4_ := Aside0.mk (Kd.R_elder' (by (with_reducible repeat (first | apply Kd.R_alloc | apply Kd.R_drewN | apply Kd.R_drew)); exact HO1181.out) (Kd.R_base ho0) hb); have n5_ := Aside0.mk (Kd.R_elder' (by (with_reducible repeat (first | apply Kd.R_alloc | apply Kd.R_drewN | apply Kd.R_drew)); exact HO1184.out) (Kd.R_base ho0) hb); have n6_ := Aside0.mk (Kd.R_lower (Kd.R_new' (Kd.R_new' (Kd.R_new' (Kd.R_new' (Kd.R_new' ho0 (Kd.R_lt (by (with_reducible repeat (first | apply Kd.R_alloc | apply Kd.R_drewN | apply Kd.R_drew)); exact HO1163.out))) (Kd.R_lt (by (with_reducible repeat (first | apply Kd.R_alloc | apply Kd.R_drewN | apply Kd.R_drew)); exact HO1172.out))) (Kd.R_lt (by (with_reducible repeat (first | apply Kd.R_alloc | apply Kd.R_drewN | apply Kd.R_drew)); exact HO1177.out))) (Kd.R_lt (by (with_reducible repeat (first | apply Kd.R_alloc | apply Kd.R_drewN | apply Kd.R_drew)); exact HO1181.out))) (Kd.R_lt (by (with_reducible repeat (first | apply Kd.R_alloc | apply Kd.R_drewN | apply Kd.R_drew)); exact HO1184.out))) (below_size (by repeat (first | (with_reducible first | exact HB.out | apply below_alloc | apply pw_below_drewN | apply below_drew1) | exact HB.out)))); have n7_ := Aside0.mk (below_step (by repeat (first | (with_reducible first | exact HB.out | apply below_alloc | apply pw_below_drewN | apply below_drew1) | exact HB.out)) hb); clear HO1163; clear HO1166; clear HO1172; clear HO1177; clear HO1181; clear HO1184; clear HB; have HO1163 := n0_; have HO1166 := n1_; have HO1172 := n2_; have HO1177 := n3_; have HO1181 := n4_; have HO1184 := n5_; have HO1189 := n6_; have HB := n7_; clear n0_ n1_ n2_ n3_ n4_ n5_ n6_ n7_; (try clear hb); (try clear hb2); (try clear hk); (try clear hi); (try clear ho0)) | ((with_reducible refine gate_callee (f := 49) rfl ?_); refine goesL_ (some 98) rfl rfl Try.func49 (by kernel_rfl) rfl #[.slice Ao19 t1161.length co19, .int .i64 (Int.tmod (rd t1164 0) 60), .int .i64 (wrap64 ((wrap64 ((Int.tmod (rd t1164 0) 60) + 1)) + (Int.tmod (rd t1164 1) 4))), .bool ((Int.tmod (rd t1164 2) 2) == 0)] rfl (by (try simp only [List.map_toArray, List.map_cons, List.map_nil]); first | done | rfl | (simp only [List.length_drop, List.length_take]; rfl)) ?_; (with_reducible refine (spec_ChangeRegions.calls k _ _ t1161 (Int.tmod (rd t1164 0) 60) (wrap64 ((wrap64 ((Int.tmod (rd t1164 0) 60) + 1)) + (Int.tmod (rd t1164 1) 4))) ((Int.tmod (rd t1164 2) 2) == 0) t1190 t1191 _ ?side1 ?side2 A14.out).mono ?_); (case side1 => repeat (first | exact (Kd.R_reads' HO1163.out).2.2 | (with_reducible refine Kd.C_alloc ?_ _) | (with_reducible refine Kd.C_drewN ?_ _) | (with_reducible refine Kd.C_drew ?_))); (case side2 => exact (Kd.R_reads' HO1163.out).2.1); rintro e w25 ⟨v1192, rfl, ho0, hb⟩; refine ⟨_, rfl, ?_⟩; have n0_ := Aside0.mk (Kd.R_elder' (by (with_reducible repeat (first | apply Kd.R_alloc | apply Kd.R_drewN | apply Kd.R_drew)); exact HO1163.out) (Kd.R_base ho0) hb); have n1_ := Aside0.mk (Kd.R_below (by (with_reducible repeat (first | apply Kd.R_alloc | apply Kd.R_drewN | apply Kd.R_drew)); exact HO1166.out) hb); have n2_ := Aside0.mk (Kd.R_elder' (by (with_reducible repeat (first | apply Kd.R_alloc | apply Kd.R_drewN | apply Kd.R_drew)); exact HO1172.out) (Kd.R_base ho0) hb); have n3_ := Aside0.mk (Kd.R_elder' (by (with_reducible repeat (first | apply Kd.R_alloc | apply Kd.R_drewN | apply Kd.R_drew)); exact HO1177.out) (Kd.R_base ho0) hb); have n4_ := Aside0.mk (Kd.R_elder' (by (with_reducible repeat (first | apply Kd.R_alloc | apply Kd.R_drewN | apply Kd.R_drew)); exact HO1181.out) (Kd.R_base ho0) hb); have n5_ := Aside0.mk (Kd.R_elder' (by (with_reducible repeat (first | apply Kd.R_alloc | apply Kd.R_drewN | apply Kd.R_drew)); exact HO1184.out) (Kd.R_base ho0) hb); have n6_ := Aside0.mk (Kd.R_elder' (by (with_reducible repeat (first | apply Kd.R_alloc | apply Kd.R_drewN | apply Kd.R_drew)); exact HO1189.out) (Kd.R_base ho0) hb); have n7_ := Aside0.mk (Kd.R_lower (Kd.R_new' (Kd.R_new' (Kd.R_new' (Kd.R_new' (Kd.R_new' (Kd.R_new' ho0 (Kd.R_lt (by (with_reducible repeat (first | apply Kd.R_alloc | apply Kd.R_drewN | apply Kd.R_drew)); exact HO1163.out))) (Kd.R_lt (by (with_reducible repeat (first | apply Kd.R_alloc | apply Kd.R_drewN | apply Kd.R_drew)); exact HO1172.out))) (Kd.R_lt (by (with_reducible repeat (first | apply Kd.R_alloc | apply Kd.R_drewN | apply Kd.R_drew)); exact HO1177.out))) (Kd.R_lt (by (with_reducible repeat (first | apply Kd.R_alloc | apply Kd.R_drewN | apply Kd.R_drew)); exact HO1181.out))) (Kd.R_lt (by (with_reducible repeat (first | apply Kd.R_alloc | apply Kd.R_drewN | apply Kd.R_drew)); exact HO1184.out))) (Kd.R_lt (by (with_reducible repeat (first | apply Kd.R_alloc | apply Kd.R_drewN | apply Kd.R_drew)); exact HO1189.out))) (below_size (by repeat (first | (with_reducible first | exact HB.out | apply below_alloc | apply pw_below_drewN | apply below_drew1) | exact HB.out)))); have n8_ := Aside0.mk (below_step (by repeat (first | (with_reducible first | exact HB.out | apply below_alloc | apply pw_below_drewN | apply below_drew1) | exact HB.out)) hb); clear HO1163; clear HO1166; clear HO1172; clear HO1177; clear HO1181; clear HO1184; clear HO1189; clear HB; have HO1163 := n0_; have HO1166 := n1_; have HO1172 := n2_; have HO1177 := n3_; have HO1181 := n4_; have HO1184 := n5_; have HO1189 := n6_; have HO1193 := n7_; have HB := n8_; clear n0_ n1_ n2_ n3_ n4_ n5_ n6_ n7_ n8_; (try clear hb); (try clear hb2); (try clear hk); (try clear hi); (try clear ho0)))
          (try simp only [Act.put, List.setIfInBounds_toArray, List.set_cons_zero, List.set_cons_succ])
          go_cut [118] (fun v118 wc => ∃ (kq : Nat) (x118_14 : Bool), v118 = .bool x118_14 ∧ Aside0 (laws_FnRegions.j0 kq t1161 (Int.tmod (rd t1164 0) 60) (wrap64 ((wrap64 ((Int.tmod (rd t1164 0) 60) + 1)) + (Int.tmod (rd t1164 1) 4))) ((Int.tmod (rd t1164 2) 2) == 0) t1170 t1173 t1174 t1175 t1178 t1179 x118_14 = some r) ∧ Aside0 (kq ≤ k) ∧ Aside0 (Kd.R k70 70 wc w.heap.size (fun _ => True) (.slice Ao19 t1161.length co19) t1161) ∧ Aside0 (Kd.R k70 70 wc w.heap.size (fun _ => True) v1171 t1170) ∧ Aside0 (Kd.R k70 70 wc w.heap.size (fun _ => True) v1176 t1174) ∧ Aside0 (Kd.R k70 70 wc w.heap.size (fun _ => True) v1180 t1178) ∧ Aside0 (Below w.heap.size w wc))
          case first => as_aux_lemma =>
            have H := HC15.out
            clear HC15
            by_cases c26 : (t1173 != t1185) = true
            · rw [if_pos c26] at H
              have c26b0 : (t1173 != t1185) = true := c26
              (try (have c26b1 : decide (t1173 = t1185) = false := by simpa using c26))
              (try (have c26b2 : (t1173 == t1185) = false := by simpa using c26))
              (try (have c26b3 : ¬ (t1173 = t1185) := by simpa using c26))
              clear c26
              (first | rw [c26b0] | (simp only [i64_w, i32_w]; rw [c26b0]) | skip)
              have H' := Aside0.mk H
              clear H
              go_wp2
              go_meet
              case rel => exact ⟨_, (true), (by first | rfl | (simp; done) | (simp [*]; done)), H', ⟨by first | omega | exact Nat.le_refl _⟩, ⟨by (with_reducible repeat (first | apply Kd.R_alloc | apply Kd.R_drewN | apply Kd.R_drew)); exact Kd.R_mono HO1163.out (fun _ hk => trivial)⟩, ⟨by (with_reducible repeat (first | apply Kd.R_alloc | apply Kd.R_drewN | apply Kd.R_drew)); exact Kd.R_mono HO1172.out (fun _ hk => trivial)⟩, ⟨by (with_reducible repeat (first | apply Kd.R_alloc | apply Kd.R_drewN | apply Kd.R_drew)); exact Kd.R_mono HO1177.out (fun _ hk => trivial)⟩, ⟨by (with_reducible repeat (first | apply Kd.R_alloc | apply Kd.R_drewN | apply Kd.R_drew)); exact Kd.R_mono HO1181.out (fun _ hk => trivial)⟩, ⟨by repeat (first | (with_reducible first | exact HB.out | apply below_alloc | apply pw_below_drewN | apply below_drew1) | exact HB.out)⟩⟩
            · rw [if_neg c26] at H
              have c26b0 : (t1173 != t1185) = false := by simpa using c26
              (try (have c26b1 : decide (t1173 = t1185) = true := by simpa using c26))
              (try (have c26b2 : (t1173 == t1185) = true := by simpa using c26))
              clear c26
              (first | rw [c26b0] | (simp only [i64_w, i32_w]; rw [c26b0]) | skip)
              by_cases c27 : (t1175 != t1187) = true
              · rw [if_pos c27] at H
                have c27b0 : (t1175 != t1187) = true := c27
                (try (have c27b1 : decide (t1175 = t1187) = false := by simpa using c27))
                (try (have c27b2 : (t1175 == t1187) = false := by simpa using c27))
                (try (have c27b3 : ¬ (t1175 = t1187) := by simpa using c27))
                clear c27
                have H' := Aside0.mk H
                clear H
                go_wp2
                go_meet
                case rel => exact ⟨_, (true), (by first | rfl | (simp; done) | (simp [*]; done)), H', ⟨by first | omega | exact Nat.le_refl _⟩, ⟨by (with_reducible repeat (first | apply Kd.R_alloc | apply Kd.R_drewN | apply Kd.R_drew)); exact Kd.R_mono HO1163.out (fun _ hk => trivial)⟩, ⟨by (with_reducible repeat (first | apply Kd.R_alloc | apply Kd.R_drewN | apply Kd.R_drew)); exact Kd.R_mono HO1172.out (fun _ hk => trivial)⟩, ⟨by (with_reducible repeat (first | apply Kd.R_alloc | apply Kd.R_drewN | apply Kd.R_drew)); exact Kd.R_mono HO1177.out (fun _ hk => trivial)⟩, ⟨by (with_reducible repeat (first | apply Kd.R_alloc | apply Kd.R_drewN | apply Kd.R_drew)); exact Kd.R_mono HO1181.out (fun _ hk => trivial)⟩, ⟨by repeat (first | (with_reducible first | exact HB.out | apply below_alloc | apply pw_below_drewN | apply below_drew1) | exact HB.out)⟩⟩
              · rw [if_neg c27] at H
                have c27b0 : (t1175 != t1187) = false := by simpa using c27
                (try (have c27b1 : decide (t1175 = t1187) = true := by simpa using c27))
                (try (have c27b2 : (t1175 == t1187) = true := by simpa using c27))
                clear c27
                by_cases c28 : (t1179 != t1191) = true
                · rw [if_pos c28] at H
                  have c28b0 : (t1179 != t1191) = true := c28
                  (try (have c28b1 : decide (t1179 = t1191) = false := by simpa using c28))
                  (try (have c28b2 : (t1179 == t1191) = false := by simpa using c28))
                  (try (have c28b3 : ¬ (t1179 = t1191) := by simpa using c28))
                  clear c28
                  have H' := Aside0.mk H
                  clear H
                  go_wp2
                  go_meet
                  case rel => exact ⟨_, (true), (by first | rfl | (simp; done) | (simp [*]; done)), H', ⟨by first | omega | exact Nat.le_refl _⟩, ⟨by (with_reducible repeat (first | apply Kd.R_alloc | apply Kd.R_drewN | apply Kd.R_drew)); exact Kd.R_mono HO1163.out (fun _ hk => trivial)⟩, ⟨by (with_reducible repeat (first | apply Kd.R_alloc | apply Kd.R_drewN | apply Kd.R_drew)); exact Kd.R_mono HO1172.out (fun _ hk => trivial)⟩, ⟨by (with_reducible repeat (first | apply Kd.R_alloc | apply Kd.R_drewN | apply Kd.R_drew)); exact Kd.R_mono HO1177.out (fun _ hk => trivial)⟩, ⟨by (with_reducible repeat (first | apply Kd.R_alloc | apply Kd.R_drewN | apply Kd.R_drew)); exact Kd.R_mono HO1181.out (fun _ hk => trivial)⟩, ⟨by repeat (first | (with_reducible first | exact HB.out | apply below_alloc | apply pw_below_drewN | apply below_drew1) | exact HB.out)⟩⟩
                · rw [if_neg c28] at H
                  have c28b0 : (t1179 != t1191) = false := by simpa using c28
                  (try (have c28b1 : decide (t1179 = t1191) = true := by simpa using c28))
                  (try (have c28b2 : (t1179 == t1191) = true := by simpa using c28))
                  clear c28
                  replace H := Option.bind_eq_some_iff.mp H
                  obtain ⟨t1194, A290, H⟩ := H
                  replace H : (laws_FnRegions.j0 k t1161 (Int.tmod (rd t1164 0) 60) (wrap64 ((wrap64 ((Int.tmod (rd t1164 0) 60) + 1)) + (Int.tmod (rd t1164 1) 4))) ((Int.tmod (rd t1164 2) 2) == 0) t1170 t1173 t1174 t1175 t1178 t1179 (!t1194)) = some r := H
                  have A29 := Aside0.mk A290
                  clear A290
                  have H' := Aside0.mk H
                  clear H
                  go_wp2_with (first | (go_at_call 64; (with_reducible refine (impl_RegionsOk.calls k _ _ t1161 t1194 _ ?side1 ?side2 A29.out).mono ?_); (case side1 => repeat (first | exact (Kd.R_reads' HO1163.out).2.2 | (with_reducible refine Kd.C_alloc ?_ _) | (with_reducible refine Kd.C_drewN ?_ _) | (with_reducible refine Kd.C_drew ?_))); (case side2 => exact (Kd.R_reads' HO1163.out).2.1); rintro e w30 ⟨rfl, hb⟩; have n0_ := Aside0.mk (Kd.R_below (by (with_reducible repeat (first | apply Kd.R_alloc | apply Kd.R_drewN | apply Kd.R_drew)); exact HO1163.out) hb); have n1_ := Aside0.mk (Kd.R_below (by (with_reducible repeat (first | apply Kd.R_alloc | apply Kd.R_drewN | apply Kd.R_drew)); exact HO1166.out) hb); have n2_ := Aside0.mk (Kd.R_below (by (with_reducible repeat (first | apply Kd.R_alloc | apply Kd.R_drewN | apply Kd.R_drew)); exact HO1172.out) hb); have n3_ := Aside0.mk (Kd.R_below (by (with_reducible repeat (first | apply Kd.R_alloc | apply Kd.R_drewN | apply Kd.R_drew)); exact HO1177.out) hb); have n4_ := Aside0.mk (Kd.R_below (by (with_reducible repeat (first | apply Kd.R_alloc | apply Kd.R_drewN | apply Kd.R_drew)); exact HO1181.out) hb); have n5_ := Aside0.mk (Kd.R_below (by (with_reducible repeat (first | apply Kd.R_alloc | apply Kd.R_drewN | apply Kd.R_drew)); exact HO1184.out) hb); have n6_ := Aside0.mk (Kd.R_below (by (with_reducible repeat (first | apply Kd.R_alloc | apply Kd.R_drewN | apply Kd.R_drew)); exact HO1189.out) hb); have n7_ := Aside0.mk (Kd.R_below (by (with_reducible repeat (first | apply Kd.R_alloc | apply Kd.R_drewN | apply Kd.R_drew)); exact HO1193.out) hb); have n8_ := Aside0.mk (below_step (by repeat (first | (with_reducible first | exact HB.out | apply below_alloc | apply pw_below_drewN | apply below_drew1) | exact HB.out)) hb); clear HO1163; clear HO1166; clear HO1172; clear HO1177; clear HO1181; clear HO1184; clear HO1189; clear HO1193; clear HB; have HO1163 := n0_; have HO1166 := n1_; have HO1172 := n2_; have HO1177 := n3_; have HO1181 := n4_; have HO1184 := n5_; have HO1189 := n6_; have HO1193 := n7_; have HB := n8_; clear n0_ n1_ n2_ n3_ n4_ n5_ n6_ n7_ n8_; (try clear hb); (try clear hb2); (try clear hk); (try clear hi)))
                  go_meet
                  case rel => exact ⟨_, (!t1194), (by first | rfl | (simp; done) | (simp [*]; done)), H', ⟨by first | omega | exact Nat.le_refl _⟩, ⟨by (with_reducible repeat (first | apply Kd.R_alloc | apply Kd.R_drewN | apply Kd.R_drew)); exact Kd.R_mono HO1163.out (fun _ hk => trivial)⟩, ⟨by (with_reducible repeat (first | apply Kd.R_alloc | apply Kd.R_drewN | apply Kd.R_drew)); exact Kd.R_mono HO1172.out (fun _ hk => trivial)⟩, ⟨by (with_reducible repeat (first | apply Kd.R_alloc | apply Kd.R_drewN | apply Kd.R_drew)); exact Kd.R_mono HO1177.out (fun _ hk => trivial)⟩, ⟨by (with_reducible repeat (first | apply Kd.R_alloc | apply Kd.R_drewN | apply Kd.R_drew)); exact Kd.R_mono HO1181.out (fun _ hk => trivial)⟩, ⟨by repeat (first | (with_reducible first | exact HB.out | apply below_alloc | apply pw_below_drewN | apply below_drew1) | exact HB.out)⟩⟩
          case rest => as_aux_lemma =>
            clear HC15
            try clear c1
            try clear p1
            try clear q1
            try clear hx1
            try clear qi1
            try clear c2
            try clear p2
            try clear c3
            try clear c4
            try clear c5
            try clear c6
            try clear c6b0
            try clear c6b1
            try clear p6
            try clear c7
            try clear c7b0
            try clear c7b1
            try clear c8
            try clear c8b0
            try clear c8b1
            try clear p11
            try clear q11
            try clear hx11
            try clear qi11
            try clear c13
            try clear c24
            try clear c26
            try clear c26b0
            try clear c26b1
            try clear c26b2
            try clear c27
            try clear c27b0
            try clear c27b1
            try clear c27b2
            try clear c28
            try clear c28b0
            try clear c28b1
            try clear c28b2
            try clear c30
            try clear hx1167_0
            try clear hx1168_0
            try clear hx1169_0
            try clear p1167
            try clear p1168
            try clear p1169
            try clear q1167
            try clear q1168
            try clear q1169
            obtain ⟨kq, x118_14, rfl, HA, HJ14, HO_3, HO_8, HO_10, HO_12, HB⟩ := hcut
            cases kq with
            | zero => exact absurd HA.out (by simp [laws_FnRegions.j0])
            | succ kj14 =>
              have H := HA.out
              clear HA
              simp only [laws_FnRegions.j0] at H
              by_cases c31 : x118_14 = true
              · subst c31
                have H1 : (some false) = some r := by rw [if_pos rfl] at H; exact H
                clear H
                have H := H1
                clear H1
                obtain rfl := Option.some.inj H
                go_wp2
                go_ret
                exact ⟨by first | rfl | (simp [errW_none, errW_some] <;> rfl) | (simp [*, errW_none, errW_some] <;> rfl), by repeat (first | (with_reducible first | exact HB.out | apply below_alloc | apply pw_below_drewN | apply below_drew1) | exact HB.out)⟩
              · replace c31 := Bool.eq_false_iff.mpr c31
                subst c31
                have H1 : (laws_FnRegions.l0 kj14 t1161 (Int.tmod (rd t1164 0) 60) (wrap64 ((wrap64 ((Int.tmod (rd t1164 0) 60) + 1)) + (Int.tmod (rd t1164 1) 4))) ((Int.tmod (rd t1164 2) 2) == 0) t1170 t1173 t1174 t1175 t1178 t1179 0) = some r := by rw [if_neg (show ¬ (false = true) by decide)] at H; exact H
                clear H
                have H := H1
                clear H1
                have H' := Aside0.mk H
                clear H
                go_wp2
                go_loopg [20] kj14 (fun kq v20 w' => ∃ (x20_2 : Int), v20 = .int .i64 x20_2 ∧ Aside0 (laws_FnRegions.l0 kq t1161 (Int.tmod (rd t1164 0) 60) (wrap64 ((wrap64 ((Int.tmod (rd t1164 0) 60) + 1)) + (Int.tmod (rd t1164 1) 4))) ((Int.tmod (rd t1164 2) 2) == 0) t1170 t1173 t1174 t1175 t1178 t1179 x20_2 = some r) ∧ Aside0 (kq ≤ kj14) ∧ Aside0 (Kd.R k70 70 w' w.heap.size (fun _ => True) (.slice Ao19 t1161.length co19) t1161) ∧ Aside0 (Kd.R k70 70 w' w.heap.size (fun _ => True) v1171 t1170) ∧ Aside0 (Kd.R k70 70 w' w.heap.size (fun _ => True) v1176 t1174) ∧ Aside0 (Kd.R k70 70 w' w.heap.size (fun _ => True) v1180 t1178) ∧ Aside0 (Below w.heap.size w w'))
                case atStart => exact ⟨(0), (by first | rfl | (simp; done) | (simp [*]; done)), H', ⟨Nat.le_refl _⟩, ⟨by (with_reducible repeat (first | apply Kd.R_alloc | apply Kd.R_drewN | apply Kd.R_drew)); exact HO_3.out⟩, ⟨by (with_reducible repeat (first | apply Kd.R_alloc | apply Kd.R_drewN | apply Kd.R_drew)); exact HO_8.out⟩, ⟨by (with_reducible repeat (first | apply Kd.R_alloc | apply Kd.R_drewN | apply Kd.R_drew)); exact HO_10.out⟩, ⟨by (with_reducible repeat (first | apply Kd.R_alloc | apply Kd.R_drewN | apply Kd.R_drew)); exact HO_12.out⟩, ⟨by repeat (first | (with_reducible first | exact HB.out | apply below_alloc | apply pw_below_drewN | apply below_drew1) | exact HB.out)⟩⟩
                case round => as_aux_lemma =>
                  clear H'
                  try clear c1
                  try clear p1
                  try clear q1
                  try clear hx1
                  try clear qi1
                  try clear c2
                  try clear p2
                  try clear c3
                  try clear c4
                  try clear c5
                  try clear c6
                  try clear c6b0
                  try clear c6b1
                  try clear p6
                  try clear c7
                  try clear c7b0
                  try clear c7b1
                  try clear c8
                  try clear c8b0
                  try clear c8b1
                  try clear p11
                  try clear q11
                  try clear hx11
                  try clear qi11
                  try clear c13
                  try clear c24
                  try clear c26
                  try clear c26b0
                  try clear c26b1
                  try clear c26b2
                  try clear c27
                  try clear c27b0
                  try clear c27b1
                  try clear c27b2
                  try clear c28
                  try clear c28b0
                  try clear c28b1
                  try clear c28b2
                  try clear c30
                  try clear c31
                  try clear hx1167_0
                  try clear hx1168_0
                  try clear hx1169_0
                  try clear p1
                  try clear p11
                  try clear p1167
                  try clear p1168
                  try clear p1169
                  try clear p2
                  try clear p6
                  try clear q1
                  try clear q11
                  try clear q1167
                  try clear q1168
                  try clear q1169
                  obtain ⟨x20_2, rfl, HA, HK2, HO_3, HO_8, HO_10, HO_12, HB⟩ := hrel
                  cases gk with
                  | zero => exact absurd HA.out (by simp [laws_FnRegions.l0])
                  | succ k2 =>
                    have H := HA.out
                    clear HA
                    simp only [laws_FnRegions.l0] at H
                    by_cases c32 : x20_2 < 64
                    · rw [if_pos c32] at H
                      have c32b0 : decide (x20_2 < 64) = true := decide_eq_true c32
                      clear c32
                      replace H := Option.bind_eq_some_iff.mp H
                      obtain ⟨⟨t1195, t1196⟩, A330, H⟩ := H
                      replace H : (if x20_2 ≥ (Int.tmod (rd t1164 0) 60) then (laws_FnRegions.j2 k2 t1161 (Int.tmod (rd t1164 0) 60) (wrap64 ((wrap64 ((Int.tmod (rd t1164 0) 60) + 1)) + (Int.tmod (rd t1164 1) 4))) ((Int.tmod (rd t1164 2) 2) == 0) t1170 t1173 t1174 t1175 t1178 t1179 x20_2 t1195 t1196 (decide (x20_2 < (wrap64 ((wrap64 ((Int.tmod (rd t1164 0) 60) + 1)) + (Int.tmod (rd t1164 1) 4)))))) else (laws_FnRegions.j2 k2 t1161 (Int.tmod (rd t1164 0) 60) (wrap64 ((wrap64 ((Int.tmod (rd t1164 0) 60) + 1)) + (Int.tmod (rd t1164 1) 4))) ((Int.tmod (rd t1164 2) 2) == 0) t1170 t1173 t1174 t1175 t1178 t1179 x20_2 t1195 t1196 false)) = some r := H
                      have A33 := Aside0.mk A330
                      clear A330
                      have HC34 := Aside0.mk H
                      clear H
                      go_upto_region 20 with (first | ((with_reducible refine gate_callee (f := 65) rfl ?_); refine goesL_ (some 126) rfl rfl Try.func65 (by kernel_rfl) rfl #[.slice Ao19 t1161.length co19, .int .i64 x20_2] rfl (by (try simp only [List.map_toArray, List.map_cons, List.map_nil]); first | done | rfl | (simp only [List.length_drop, List.length_take]; rfl)) ?_; (with_reducible refine (spec_Allowed.calls k2 _ _ t1161 x20_2 t1195 t1196 _ ?side1 ?side2 A33.out).mono ?_); (case side1 => repeat (first | exact (Kd.R_reads' HO_3.out).2.2 | (with_reducible refine Kd.C_alloc ?_ _) | (with_reducible refine Kd.C_drewN ?_ _) | (with_reducible refine Kd.C_drew ?_))); (case side2 => exact (Kd.R_reads' HO_3.out).2.1); rintro e w35 ⟨rfl, hb⟩; refine ⟨_, rfl, ?_⟩; have n0_ := Aside0.mk (Kd.R_below (by (with_reducible repeat (first | apply Kd.R_alloc | apply Kd.R_drewN | apply Kd.R_drew)); exact HO_3.out) hb); have n1_ := Aside0.mk (Kd.R_below (by (with_reducible repeat (first | apply Kd.R_alloc | apply Kd.R_drewN | apply Kd.R_drew)); exact HO_8.out) hb); have n2_ := Aside0.mk (Kd.R_below (by (with_reducible repeat (first | apply Kd.R_alloc | apply Kd.R_drewN | apply Kd.R_drew)); exact HO_10.out) hb); have n3_ := Aside0.mk (Kd.R_below (by (with_reducible repeat (first | apply Kd.R_alloc | apply Kd.R_drewN | apply Kd.R_drew)); exact HO_12.out) hb); have n4_ := Aside0.mk (below_step (by repeat (first | (with_reducible first | exact HB.out | apply below_alloc | apply pw_below_drewN | apply below_drew1) | exact HB.out)) hb); clear HO_3; clear HO_8; clear HO_10; clear HO_12; clear HB; have HO_3 := n0_; have HO_8 := n1_; have HO_10 := n2_; have HO_12 := n3_; have HB := n4_; clear n0_ n1_ n2_ n3_ n4_; (try clear hb); (try clear hb2); (try clear hk); (try clear hi)))
                      (try simp only [Act.put, List.setIfInBounds_toArray, List.set_cons_zero, List.set_cons_succ])
                      go_cut [23] (fun v23 wc => ∃ (kq : Nat) (x23_33 : Bool), v23 = .bool x23_33 ∧ Aside0 (laws_FnRegions.j2 kq t1161 (Int.tmod (rd t1164 0) 60) (wrap64 ((wrap64 ((Int.tmod (rd t1164 0) 60) + 1)) + (Int.tmod (rd t1164 1) 4))) ((Int.tmod (rd t1164 2) 2) == 0) t1170 t1173 t1174 t1175 t1178 t1179 x20_2 t1195 t1196 x23_33 = some r) ∧ Aside0 (kq ≤ k2) ∧ Aside0 (Kd.R k70 70 wc w.heap.size (fun _ => True) (.slice Ao19 t1161.length co19) t1161) ∧ Aside0 (Kd.R k70 70 wc w.heap.size (fun _ => True) v1171 t1170) ∧ Aside0 (Kd.R k70 70 wc w.heap.size (fun _ => True) v1176 t1174) ∧ Aside0 (Kd.R k70 70 wc w.heap.size (fun _ => True) v1180 t1178) ∧ Aside0 (Below w.heap.size w wc))
                      case first => as_aux_lemma =>
                        have H := HC34.out
                        clear HC34
                        by_cases c36 : x20_2 ≥ (Int.tmod (rd t1164 0) 60)
                        · rw [if_pos c36] at H
                          have c36b0 : decide ((Int.tmod (rd t1164 0) 60) ≤ x20_2) = true := decide_eq_true c36
                          clear c36
                          (first | rw [c36b0] | (simp only [i64_w, i32_w]; rw [c36b0]) | skip)
                          have H' := Aside0.mk H
                          clear H
                          go_wp2
                          go_meet
                          case rel => exact ⟨_, (decide (x20_2 < (wrap64 ((wrap64 ((Int.tmod (rd t1164 0) 60) + 1)) + (Int.tmod (rd t1164 1) 4))))), (by first | rfl | (simp; done) | (simp [*]; done)), H', ⟨by have := HJ14.out; have := HK2.out; first | omega | exact Nat.le_refl _⟩, ⟨by (with_reducible repeat (first | apply Kd.R_alloc | apply Kd.R_drewN | apply Kd.R_drew)); exact HO_3.out⟩, ⟨by (with_reducible repeat (first | apply Kd.R_alloc | apply Kd.R_drewN | apply Kd.R_drew)); exact HO_8.out⟩, ⟨by (with_reducible repeat (first | apply Kd.R_alloc | apply Kd.R_drewN | apply Kd.R_drew)); exact HO_10.out⟩, ⟨by (with_reducible repeat (first | apply Kd.R_alloc | apply Kd.R_drewN | apply Kd.R_drew)); exact HO_12.out⟩, ⟨by repeat (first | (with_reducible first | exact HB.out | apply below_alloc | apply pw_below_drewN | apply below_drew1) | exact HB.out)⟩⟩
                        · rw [if_neg c36] at H
                          have c36b0 : decide ((Int.tmod (rd t1164 0) 60) ≤ x20_2) = false := decide_eq_false c36
                          clear c36
                          (first | rw [c36b0] | (simp only [i64_w, i32_w]; rw [c36b0]) | skip)
                          have H' := Aside0.mk H
                          clear H
                          go_wp2
                          go_meet
                          case rel => exact ⟨_, (false), (by first | rfl | (simp; done) | (simp [*]; done)), H', ⟨by have := HJ14.out; have := HK2.out; first | omega | exact Nat.le_refl _⟩, ⟨by (with_reducible repeat (first | apply Kd.R_alloc | apply Kd.R_drewN | apply Kd.R_drew)); exact HO_3.out⟩, ⟨by (with_reducible repeat (first | apply Kd.R_alloc | apply Kd.R_drewN | apply Kd.R_drew)); exact HO_8.out⟩, ⟨by (with_reducible repeat (first | apply Kd.R_alloc | apply Kd.R_drewN | apply Kd.R_drew)); exact HO_10.out⟩, ⟨by (with_reducible repeat (first | apply Kd.R_alloc | apply Kd.R_drewN | apply Kd.R_drew)); exact HO_12.out⟩, ⟨by repeat (first | (with_reducible first | exact HB.out | apply below_alloc | apply pw_below_drewN | apply below_drew1) | exact HB.out)⟩⟩
                      case rest => as_aux_lemma =>
                        clear HC34
                        try clear c1
                        try clear p1
                        try clear q1
                        try clear hx1
                        try clear qi1
                        try clear c2
                        try clear p2
                        try clear c3
                        try clear c4
                        try clear c5
                        try clear c6
                        try clear c6b0
                        try clear c6b1
                        try clear p6
                        try clear c7
                        try clear c7b0
                        try clear c7b1
                        try clear c8
                        try clear c8b0
                        try clear c8b1
                        try clear p11
                        try clear q11
                        try clear hx11
                        try clear qi11
                        try clear c13
                        try clear c24
                        try clear c26
                        try clear c26b0
                        try clear c26b1
                        try clear c26b2
                        try clear c27
                        try clear c27b0
                        try clear c27b1
                        try clear c27b2
                        try clear c28
                        try clear c28b0
                        try clear c28b1
                        try clear c28b2
                        try clear c30
                        try clear c31
                        try clear c32
                        try clear c32b0
                        try clear c36
                        try clear c36b0
                        try clear hx1167_0
                        try clear hx1168_0
                        try clear hx1169_0
                        try clear p1
                        try clear p11
                        try clear p1167
                        try clear p1168
                        try clear p1169
                        try clear p2
                        try clear p6
                        try clear q1
                        try clear q11
                        try clear q1167
                        try clear q1168
                        try clear q1169
                        obtain ⟨kq, x23_33, rfl, HA, HJ33, HO_3, HO_8, HO_10, HO_12, HB⟩ := hcut
                        cases kq with
                        | zero => exact absurd HA.out (by simp [laws_FnRegions.j2])
                        | succ kj33 =>
                          have H := HA.out
                          clear HA
                          simp only [laws_FnRegions.j2] at H
                          have H' := Aside0.mk H
                          clear H
                          go_wp2
                          go_loopg [24] kj33 (fun kq v24 w' => ∃ (x24_4 : Int), v24 = .int .i64 x24_4 ∧ Aside0 (laws_FnRegions.l1 kq t1161 (Int.tmod (rd t1164 0) 60) (wrap64 ((wrap64 ((Int.tmod (rd t1164 0) 60) + 1)) + (Int.tmod (rd t1164 1) 4))) ((Int.tmod (rd t1164 2) 2) == 0) t1170 t1173 t1174 t1175 t1178 t1179 x20_2 t1195 t1196 x23_33 x24_4 = some r) ∧ Aside0 (kq ≤ kj33) ∧ Aside0 (Kd.R k70 70 w' w.heap.size (fun _ => True) (.slice Ao19 t1161.length co19) t1161) ∧ Aside0 (Kd.R k70 70 w' w.heap.size (fun _ => True) v1171 t1170) ∧ Aside0 (Kd.R k70 70 w' w.heap.size (fun _ => True) v1176 t1174) ∧ Aside0 (Kd.R k70 70 w' w.heap.size (fun _ => True) v1180 t1178) ∧ Aside0 (Below w.heap.size w w'))
                          case atStart => exact ⟨(0), (by first | rfl | (simp; done) | (simp [*]; done)), H', ⟨Nat.le_refl _⟩, ⟨by (with_reducible repeat (first | apply Kd.R_alloc | apply Kd.R_drewN | apply Kd.R_drew)); exact HO_3.out⟩, ⟨by (with_reducible repeat (first | apply Kd.R_alloc | apply Kd.R_drewN | apply Kd.R_drew)); exact HO_8.out⟩, ⟨by (with_reducible repeat (first | apply Kd.R_alloc | apply Kd.R_drewN | apply Kd.R_drew)); exact HO_10.out⟩, ⟨by (with_reducible repeat (first | apply Kd.R_alloc | apply Kd.R_drewN | apply Kd.R_drew)); exact HO_12.out⟩, ⟨by repeat (first | (with_reducible first | exact HB.out | apply below_alloc | apply pw_below_drewN | apply below_drew1) | exact HB.out)⟩⟩
                          case round => as_aux_lemma =>
                            clear H'
                            try clear c1
                            try clear p1
                            try clear q1
                            try clear hx1
                            try clear qi1
                            try clear c2
                            try clear p2
                            try clear c3
                            try clear c4
                            try clear c5
                            try clear c6
                            try clear c6b0
                            try clear c6b1
                            try clear p6
                            try clear c7
                            try clear c7b0
                            try clear c7b1
                            try clear c8
                            try clear c8b0
                            try clear c8b1
                            try clear p11
                            try clear q11
                            try clear hx11
                            try clear qi11
                            try clear c13
                            try clear c24
                            try clear c26
                            try clear c26b0
                            try clear c26b1
                            try clear c26b2
                            try clear c27
                            try clear c27b0
                            try clear c27b1
                            try clear c27b2
                            try clear c28
                            try clear c28b0
                            try clear c28b1
                            try clear c28b2
                            try clear c30
                            try clear c31
                            try clear c32
                            try clear c32b0
                            try clear c36
                            try clear c36b0
                            try clear hx1167_0
                            try clear hx1168_0
                            try clear hx1169_0
                            try clear p1
                            try clear p11
                            try clear p1167
                            try clear p1168
                            try clear p1169
                            try clear p2
                            try clear p6
                            try clear q1
                            try clear q11
                            try clear q1167
                            try clear q1168
                            try clear q1169
                            obtain ⟨x24_4, rfl, HA, HK4, HO_3, HO_8, HO_10, HO_12, HB⟩ := hrel
                            cases gk with
                            | zero => exact absurd HA.out (by simp [laws_FnRegions.l1])
                            | succ k4 =>
                              have H := HA.out
                              clear HA
                              simp only [laws_FnRegions.l1] at H
                              by_cases c37 : x24_4 < 3
                              · rw [if_pos c37] at H
                                have c37b0 : decide (x24_4 < 3) = true := decide_eq_true c37
                                clear c37
                                have HC38 := Aside0.mk H
                                clear H
                                go_upto_region 26 with (fail)
                                go_cut [27] (fun v27 wc => ∃ (kq : Nat) (x27_37 : Bool), v27 = .bool x27_37 ∧ Aside0 (laws_FnRegions.j4 kq t1161 (Int.tmod (rd t1164 0) 60) (wrap64 ((wrap64 ((Int.tmod (rd t1164 0) 60) + 1)) + (Int.tmod (rd t1164 1) 4))) ((Int.tmod (rd t1164 2) 2) == 0) t1170 t1173 t1174 t1175 t1178 t1179 x20_2 t1195 t1196 x23_33 x24_4 t1170 t1173 x27_37 = some r) ∧ Aside0 (kq ≤ k4) ∧ Aside0 (Kd.R k70 70 wc w.heap.size (fun _ => True) (.slice Ao19 t1161.length co19) t1161) ∧ Aside0 (Kd.R k70 70 wc w.heap.size (fun _ => True) v1171 t1170) ∧ Aside0 (Kd.R k70 70 wc w.heap.size (fun _ => True) v1176 t1174) ∧ Aside0 (Kd.R k70 70 wc w.heap.size (fun _ => True) v1180 t1178) ∧ Aside0 (Kd.R k70 70 wc w.heap.size (fun _ => True) v1171 t1170) ∧ Aside0 (Below w.heap.size w wc))
                                case first => as_aux_lemma =>
                                  have H := HC38.out
                                  clear HC38
                                  by_cases c39 : t1195 = true
                                  · subst c39
                                    have H1 : (laws_FnRegions.j4 k4 t1161 (Int.tmod (rd t1164 0) 60) (wrap64 ((wrap64 ((Int.tmod (rd t1164 0) 60) + 1)) + (Int.tmod (rd t1164 1) 4))) ((Int.tmod (rd t1164 2) 2) == 0) t1170 t1173 t1174 t1175 t1178 t1179 x20_2 true t1196 x23_33 x24_4 t1170 t1173 true) = some r := by rw [if_pos rfl] at H; exact H
                                    clear H
                                    have H := H1
                                    clear H1
                                    have H' := Aside0.mk H
                                    clear H
                                    go_wp2
                                    go_meet
                                    case rel => exact ⟨_, (true), (by first | rfl | (simp; done) | (simp [*]; done)), H', ⟨by have := HJ14.out; have := HK2.out; have := HJ33.out; have := HK4.out; first | omega | exact Nat.le_refl _⟩, ⟨by (with_reducible repeat (first | apply Kd.R_alloc | apply Kd.R_drewN | apply Kd.R_drew)); exact HO_3.out⟩, ⟨by (with_reducible repeat (first | apply Kd.R_alloc | apply Kd.R_drewN | apply Kd.R_drew)); exact HO_8.out⟩, ⟨by (with_reducible repeat (first | apply Kd.R_alloc | apply Kd.R_drewN | apply Kd.R_drew)); exact HO_10.out⟩, ⟨by (with_reducible repeat (first | apply Kd.R_alloc | apply Kd.R_drewN | apply Kd.R_drew)); exact HO_12.out⟩, ⟨by (with_reducible repeat (first | apply Kd.R_alloc | apply Kd.R_drewN | apply Kd.R_drew)); exact HO_8.out⟩, ⟨by repeat (first | (with_reducible first | exact HB.out | apply below_alloc | apply pw_below_drewN | apply below_drew1) | exact HB.out)⟩⟩
                                  · replace c39 := Bool.eq_false_iff.mpr c39
                                    subst c39
                                    have H1 : (laws_FnRegions.j4 k4 t1161 (Int.tmod (rd t1164 0) 60) (wrap64 ((wrap64 ((Int.tmod (rd t1164 0) 60) + 1)) + (Int.tmod (rd t1164 1) 4))) ((Int.tmod (rd t1164 2) 2) == 0) t1170 t1173 t1174 t1175 t1178 t1179 x20_2 false t1196 x23_33 x24_4 t1170 t1173 x23_33) = some r := by rw [if_neg (show ¬ (false = true) by decide)] at H; exact H
                                    clear H
                                    have H := H1
                                    clear H1
                                    have H' := Aside0.mk H
                                    clear H
                                    go_wp2
                                    go_meet
                                    case rel => exact ⟨_, (x23_33), (by first | rfl | (simp; done) | (simp [*]; done)), H', ⟨by have := HJ14.out; have := HK2.out; have := HJ33.out; have := HK4.out; first | omega | exact Nat.le_refl _⟩, ⟨by (with_reducible repeat (first | apply Kd.R_alloc | apply Kd.R_drewN | apply Kd.R_drew)); exact HO_3.out⟩, ⟨by (with_reducible repeat (first | apply Kd.R_alloc | apply Kd.R_drewN | apply Kd.R_drew)); exact HO_8.out⟩, ⟨by (with_reducible repeat (first | apply Kd.R_alloc | apply Kd.R_drewN | apply Kd.R_drew)); exact HO_10.out⟩, ⟨by (with_reducible repeat (first | apply Kd.R_alloc | apply Kd.R_drewN | apply Kd.R_drew)); exact HO_12.out⟩, ⟨by (with_reducible repeat (first | apply Kd.R_alloc | apply Kd.R_drewN | apply Kd.R_drew)); exact HO_8.out⟩, ⟨by repeat (first | (with_reducible first | exact HB.out | apply below_alloc | apply pw_below_drewN | apply below_drew1) | exact HB.out)⟩⟩
                                case rest => as_aux_lemma =>
                                  clear HC38
                                  try clear c1
                                  try clear p1
                                  try clear q1
                                  try clear hx1
                                  try clear qi1
                                  try clear c2
                                  try clear p2
                                  try clear c3
                                  try clear c4
                                  try clear c5
                                  try clear c6
                                  try clear c6b0
                                  try clear c6b1
                                  try clear p6
                                  try clear c7
                                  try clear c7b0
                                  try clear c7b1
                                  try clear c8
                                  try clear c8b0
                                  try clear c8b1
                                  try clear p11
                                  try clear q11
                                  try clear hx11
                                  try clear qi11
                                  try clear c13
                                  try clear c24
                                  try clear c26
                                  try clear c26b0
                                  try clear c26b1
                                  try clear c26b2
                                  try clear c27
                                  try clear c27b0
                                  try clear c27b1
                                  try clear c27b2
                                  try clear c28
                                  try clear c28b0
                                  try clear c28b1
                                  try clear c28b2
                                  try clear c30
                                  try clear c31
                                  try clear c32
                                  try clear c32b0
                                  try clear c36
                                  try clear c36b0
                                  try clear c37
                                  try clear c37b0
                                  try clear c39
                                  try clear hx1167_0
                                  try clear hx1168_0
                                  try clear hx1169_0
                                  try clear p1
                                  try clear p11
                                  try clear p1167
                                  try clear p1168
                                  try clear p1169
                                  try clear p2
                                  try clear p6
                                  try clear q1
                                  try clear q11
                                  try clear q1167
                                  try clear q1168
                                  try clear q1169
                                  obtain ⟨kq, x27_37, rfl, HA, HJ37, HO_3, HO_8, HO_10, HO_12, HO_25, HB⟩ := hcut
                                  cases kq with
                                  | zero => exact absurd HA.out (by simp [laws_FnRegions.j4])
                                  | succ kj37 =>
                                    have H := HA.out
                                    clear HA
                                    simp only [laws_FnRegions.j4] at H
                                    have HC40 := Aside0.mk H
                                    clear H
                                    go_upto_region 27 with (fail)
                                    go_cut [28] (fun v28 wc => ∃ (kq : Nat) (x28_39 : Bool), v28 = .bool x28_39 ∧ Aside0 (laws_FnRegions.j5 kq t1161 (Int.tmod (rd t1164 0) 60) (wrap64 ((wrap64 ((Int.tmod (rd t1164 0) 60) + 1)) + (Int.tmod (rd t1164 1) 4))) ((Int.tmod (rd t1164 2) 2) == 0) t1170 t1173 t1174 t1175 t1178 t1179 x20_2 t1195 t1196 x23_33 x24_4 t1170 t1173 x27_37 x28_39 = some r) ∧ Aside0 (kq ≤ kj37) ∧ Aside0 (Kd.R k70 70 wc w.heap.size (fun _ => True) (.slice Ao19 t1161.length co19) t1161) ∧ Aside0 (Kd.R k70 70 wc w.heap.size (fun _ => True) v1171 t1170) ∧ Aside0 (Kd.R k70 70 wc w.heap.size (fun _ => True) v1176 t1174) ∧ Aside0 (Kd.R k70 70 wc w.heap.size (fun _ => True) v1180 t1178) ∧ Aside0 (Kd.R k70 70 wc w.heap.size (fun _ => True) v1171 t1170) ∧ Aside0 (Below w.heap.size w wc))
                                    case first => as_aux_lemma =>
                                      have H := HC40.out
                                      clear HC40
                                      by_cases c41 : t1196 = true
                                      · subst c41
                                        have H1 : (laws_FnRegions.j5 kj37 t1161 (Int.tmod (rd t1164 0) 60) (wrap64 ((wrap64 ((Int.tmod (rd t1164 0) 60) + 1)) + (Int.tmod (rd t1164 1) 4))) ((Int.tmod (rd t1164 2) 2) == 0) t1170 t1173 t1174 t1175 t1178 t1179 x20_2 t1195 true x23_33 x24_4 t1170 t1173 x27_37 true) = some r := by rw [if_pos rfl] at H; exact H
                                        clear H
                                        have H := H1
                                        clear H1
                                        have H' := Aside0.mk H
                                        clear H
                                        go_wp2
                                        go_meet
                                        case rel => exact ⟨_, (true), (by first | rfl | (simp; done) | (simp [*]; done)), H', ⟨by have := HJ14.out; have := HK2.out; have := HJ33.out; have := HK4.out; have := HJ37.out; first | omega | exact Nat.le_refl _⟩, ⟨by (with_reducible repeat (first | apply Kd.R_alloc | apply Kd.R_drewN | apply Kd.R_drew)); exact HO_3.out⟩, ⟨by (with_reducible repeat (first | apply Kd.R_alloc | apply Kd.R_drewN | apply Kd.R_drew)); exact HO_8.out⟩, ⟨by (with_reducible repeat (first | apply Kd.R_alloc | apply Kd.R_drewN | apply Kd.R_drew)); exact HO_10.out⟩, ⟨by (with_reducible repeat (first | apply Kd.R_alloc | apply Kd.R_drewN | apply Kd.R_drew)); exact HO_12.out⟩, ⟨by (with_reducible repeat (first | apply Kd.R_alloc | apply Kd.R_drewN | apply Kd.R_drew)); exact HO_25.out⟩, ⟨by repeat (first | (with_reducible first | exact HB.out | apply below_alloc | apply pw_below_drewN | apply below_drew1) | exact HB.out)⟩⟩
                                      · replace c41 := Bool.eq_false_iff.mpr c41
                                        subst c41
                                        have H1 : (if x23_33 = true then (laws_FnRegions.j5 kj37 t1161 (Int.tmod (rd t1164 0) 60) (wrap64 ((wrap64 ((Int.tmod (rd t1164 0) 60) + 1)) + (Int.tmod (rd t1164 1) 4))) ((Int.tmod (rd t1164 2) 2) == 0) t1170 t1173 t1174 t1175 t1178 t1179 x20_2 t1195 false x23_33 x24_4 t1170 t1173 x27_37 ((Int.tmod (rd t1164 2) 2) == 0)) else (laws_FnRegions.j5 kj37 t1161 (Int.tmod (rd t1164 0) 60) (wrap64 ((wrap64 ((Int.tmod (rd t1164 0) 60) + 1)) + (Int.tmod (rd t1164 1) 4))) ((Int.tmod (rd t1164 2) 2) == 0) t1170 t1173 t1174 t1175 t1178 t1179 x20_2 t1195 false x23_33 x24_4 t1170 t1173 x27_37 false)) = some r := by rw [if_neg (show ¬ (false = true) by decide)] at H; exact H
                                        clear H
                                        have H := H1
                                        clear H1
                                        by_cases c42 : x23_33 = true
                                        · subst c42
                                          have H1 : (laws_FnRegions.j5 kj37 t1161 (Int.tmod (rd t1164 0) 60) (wrap64 ((wrap64 ((Int.tmod (rd t1164 0) 60) + 1)) + (Int.tmod (rd t1164 1) 4))) ((Int.tmod (rd t1164 2) 2) == 0) t1170 t1173 t1174 t1175 t1178 t1179 x20_2 t1195 false true x24_4 t1170 t1173 x27_37 ((Int.tmod (rd t1164 2) 2) == 0)) = some r := by rw [if_pos rfl] at H; exact H
                                          clear H
                                          have H := H1
                                          clear H1
                                          have H' := Aside0.mk H
                                          clear H
                                          go_wp2
                                          go_meet
                                          case rel => exact ⟨_, (((Int.tmod (rd t1164 2) 2) == 0)), (by first | rfl | (simp; done) | (simp [*]; done)), H', ⟨by have := HJ14.out; have := HK2.out; have := HJ33.out; have := HK4.out; have := HJ37.out; first | omega | exact Nat.le_refl _⟩, ⟨by (with_reducible repeat (first | apply Kd.R_alloc | apply Kd.R_drewN | apply Kd.R_drew)); exact HO_3.out⟩, ⟨by (with_reducible repeat (first | apply Kd.R_alloc | apply Kd.R_drewN | apply Kd.R_drew)); exact HO_8.out⟩, ⟨by (with_reducible repeat (first | apply Kd.R_alloc | apply Kd.R_drewN | apply Kd.R_drew)); exact HO_10.out⟩, ⟨by (with_reducible repeat (first | apply Kd.R_alloc | apply Kd.R_drewN | apply Kd.R_drew)); exact HO_12.out⟩, ⟨by (with_reducible repeat (first | apply Kd.R_alloc | apply Kd.R_drewN | apply Kd.R_drew)); exact HO_25.out⟩, ⟨by repeat (first | (with_reducible first | exact HB.out | apply below_alloc | apply pw_below_drewN | apply below_drew1) | exact HB.out)⟩⟩
                                        · replace c42 := Bool.eq_false_iff.mpr c42
                                          subst c42
                                          have H1 : (laws_FnRegions.j5 kj37 t1161 (Int.tmod (rd t1164 0) 60) (wrap64 ((wrap64 ((Int.tmod (rd t1164 0) 60) + 1)) + (Int.tmod (rd t1164 1) 4))) ((Int.tmod (rd t1164 2) 2) == 0) t1170 t1173 t1174 t1175 t1178 t1179 x20_2 t1195 false false x24_4 t1170 t1173 x27_37 false) = some r := by rw [if_neg (show ¬ (false = true) by decide)] at H; exact H
                                          clear H
                                          have H := H1
                                          clear H1
                                          have H' := Aside0.mk H
                                          clear H
                                          go_wp2
                                          go_meet
                                          case rel => exact ⟨_, (false), (by first | rfl | (simp; done) | (simp [*]; done)), H', ⟨by have := HJ14.out; have := HK2.out; have := HJ33.out; have := HK4.out; have := HJ37.out; first | omega | exact Nat.le_refl _⟩, ⟨by (with_reducible repeat (first | apply Kd.R_alloc | apply Kd.R_drewN | apply Kd.R_drew)); exact HO_3.out⟩, ⟨by (with_reducible repeat (first | apply Kd.R_alloc | apply Kd.R_drewN | apply Kd.R_drew)); exact HO_8.out⟩, ⟨by (with_reducible repeat (first | apply Kd.R_alloc | apply Kd.R_drewN | apply Kd.R_drew)); exact HO_10.out⟩, ⟨by (with_reducible repeat (first | apply Kd.R_alloc | apply Kd.R_drewN | apply Kd.R_drew)); exact HO_12.out⟩, ⟨by (with_reducible repeat (first | apply Kd.R_alloc | apply Kd.R_drewN | apply Kd.R_drew)); exact HO_25.out⟩, ⟨by repeat (first | (with_reducible first | exact HB.out | apply below_alloc | apply pw_below_drewN | apply below_drew1) | exact HB.out)⟩⟩
                                    case rest => as_aux_lemma =>
                                      clear HC40
                                      try clear c1
                                      try clear p1
                                      try clear q1
                                      try clear hx1
                                      try clear qi1
                                      try clear c2
                                      try clear p2
                                      try clear c3
                                      try clear c4
                                      try clear c5
                                      try clear c6
                                      try clear c6b0
                                      try clear c6b1
                                      try clear p6
                                      try clear c7
                                      try clear c7b0
                                      try clear c7b1
                                      try clear c8
                                      try clear c8b0
                                      try clear c8b1
                                      try clear p11
                                      try clear q11
                                      try clear hx11
                                      try clear qi11
                                      try clear c13
                                      try clear c24
                                      try clear c26
                                      try clear c26b0
                                      try clear c26b1
                                      try clear c26b2
                                      try clear c27
                                      try clear c27b0
                                      try clear c27b1
                                      try clear c27b2
                                      try clear c28
                                      try clear c28b0
                                      try clear c28b1
                                      try clear c28b2
                                      try clear c30
                                      try clear c31
                                      try clear c32
                                      try clear c32b0
                                      try clear c36
                                      try clear c36b0
                                      try clear c37
                                      try clear c37b0
                                      try clear c39
                                      try clear c41
                                      try clear c42
                                      try clear hx1167_0
                                      try clear hx1168_0
                                      try clear hx1169_0
                                      try clear p1
                                      try clear p11
                                      try clear p1167
                                      try clear p1168
                                      try clear p1169
                                      try clear p2
                                      try clear p6
                                      try clear q1
                                      try clear q11
                                      try clear q1167
                                      try clear q1168
                                      try clear q1169
                                      obtain ⟨kq, x28_39, rfl, HA, HJ39, HO_3, HO_8, HO_10, HO_12, HO_25, HB⟩ := hcut
                                      cases kq with
                                      | zero => exact absurd HA.out (by simp [laws_FnRegions.j5])
                                      | succ kj39 =>
                                        have H := HA.out
                                        clear HA
                                        simp only [laws_FnRegions.j5] at H
                                        have HC43 := Aside0.mk H
                                        clear H
                                        go_upto_if 155 with (fail)
                                        go_cut [25, 26, 27, 28] (fun v25 v26 v27 v28 wc => ∃ (kq : Nat) (x25_42 : List (S70)) (x26_42 : Bool) (x27_42 : Bool) (x28_42 : Bool), v26 = .bool x26_42 ∧ v27 = .bool x27_42 ∧ v28 = .bool x28_42 ∧ Aside0 (laws_FnRegions.j6 kq t1161 (Int.tmod (rd t1164 0) 60) (wrap64 ((wrap64 ((Int.tmod (rd t1164 0) 60) + 1)) + (Int.tmod (rd t1164 1) 4))) ((Int.tmod (rd t1164 2) 2) == 0) t1170 t1173 t1174 t1175 t1178 t1179 x20_2 t1195 t1196 x23_33 x24_4 x25_42 x26_42 x27_42 x28_42 = some r) ∧ Aside0 (kq ≤ kj39) ∧ Aside0 (Kd.R k70 70 wc w.heap.size (fun _ => True) (.slice Ao19 t1161.length co19) t1161) ∧ Aside0 (Kd.R k70 70 wc w.heap.size (fun _ => True) v1171 t1170) ∧ Aside0 (Kd.R k70 70 wc w.heap.size (fun _ => True) v1176 t1174) ∧ Aside0 (Kd.R k70 70 wc w.heap.size (fun _ => True) v1180 t1178) ∧ Aside0 (Kd.R k70 70 wc w.heap.size (fun _ => True) v25 x25_42) ∧ Aside0 (Below w.heap.size w wc))
                                        case first => as_aux_lemma =>
                                          have H := HC43.out
                                          clear HC43
                                          by_cases c44 : x24_4 = 1
                                          · rw [if_pos c44] at H
                                            have c44b0 : (x24_4 == 1) = true := beq_iff_eq.mpr c44
                                            have c44b1 : (x24_4 != 1) = false := bne_eq_false_iff_eq.mpr c44
                                            clear c44
                                            (first | rw [c44b0] | (simp only [i64_w, i32_w]; rw [c44b0]) | skip)
                                            by_cases c45 : t1195 = true
                                            · subst c45
                                              have H1 : (if t1196 = true then (laws_FnRegions.j6 kj39 t1161 (Int.tmod (rd t1164 0) 60) (wrap64 ((wrap64 ((Int.tmod (rd t1164 0) 60) + 1)) + (Int.tmod (rd t1164 1) 4))) ((Int.tmod (rd t1164 2) 2) == 0) t1170 t1173 t1174 t1175 t1178 t1179 x20_2 true t1196 x23_33 x24_4 t1174 t1175 (!x23_33) (!x23_33)) else (laws_FnRegions.j6 kj39 t1161 (Int.tmod (rd t1164 0) 60) (wrap64 ((wrap64 ((Int.tmod (rd t1164 0) 60) + 1)) + (Int.tmod (rd t1164 1) 4))) ((Int.tmod (rd t1164 2) 2) == 0) t1170 t1173 t1174 t1175 t1178 t1179 x20_2 true t1196 x23_33 x24_4 t1174 t1175 (!x23_33) false)) = some r := by rw [if_pos rfl] at H; exact H
                                              clear H
                                              have H := H1
                                              clear H1
                                              by_cases c46 : t1196 = true
                                              · subst c46
                                                have H1 : (laws_FnRegions.j6 kj39 t1161 (Int.tmod (rd t1164 0) 60) (wrap64 ((wrap64 ((Int.tmod (rd t1164 0) 60) + 1)) + (Int.tmod (rd t1164 1) 4))) ((Int.tmod (rd t1164 2) 2) == 0) t1170 t1173 t1174 t1175 t1178 t1179 x20_2 true true x23_33 x24_4 t1174 t1175 (!x23_33) (!x23_33)) = some r := by rw [if_pos rfl] at H; exact H
                                                clear H
                                                have H := H1
                                                clear H1
                                                have H' := Aside0.mk H
                                                clear H
                                                go_wp2
                                                go_meet
                                                case rel => exact ⟨_, (t1174), (t1175), (!x23_33), (!x23_33), (by first | rfl | (simp; done) | (simp [*]; done)), (by first | rfl | (simp; done) | (simp [*]; done)), (by first | rfl | (simp; done) | (simp [*]; done)), H', ⟨by have := HJ14.out; have := HK2.out; have := HJ33.out; have := HK4.out; have := HJ37.out; have := HJ39.out; first | omega | exact Nat.le_refl _⟩, ⟨by (with_reducible repeat (first | apply Kd.R_alloc | apply Kd.R_drewN | apply Kd.R_drew)); exact HO_3.out⟩, ⟨by (with_reducible repeat (first | apply Kd.R_alloc | apply Kd.R_drewN | apply Kd.R_drew)); exact HO_8.out⟩, ⟨by (with_reducible repeat (first | apply Kd.R_alloc | apply Kd.R_drewN | apply Kd.R_drew)); exact HO_10.out⟩, ⟨by (with_reducible repeat (first | apply Kd.R_alloc | apply Kd.R_drewN | apply Kd.R_drew)); exact HO_12.out⟩, ⟨by (with_reducible repeat (first | apply Kd.R_alloc | apply Kd.R_drewN | apply Kd.R_drew)); exact HO_10.out⟩, ⟨by repeat (first | (with_reducible first | exact HB.out | apply below_alloc | apply pw_below_drewN | apply below_drew1) | exact HB.out)⟩⟩
                                              · replace c46 := Bool.eq_false_iff.mpr c46
                                                subst c46
                                                have H1 : (laws_FnRegions.j6 kj39 t1161 (Int.tmod (rd t1164 0) 60) (wrap64 ((wrap64 ((Int.tmod (rd t1164 0) 60) + 1)) + (Int.tmod (rd t1164 1) 4))) ((Int.tmod (rd t1164 2) 2) == 0) t1170 t1173 t1174 t1175 t1178 t1179 x20_2 true false x23_33 x24_4 t1174 t1175 (!x23_33) false) = some r := by rw [if_neg (show ¬ (false = true) by decide)] at H; exact H
                                                clear H
                                                have H := H1
                                                clear H1
                                                have H' := Aside0.mk H
                                                clear H
                                                go_wp2
                                                go_meet
                                                case rel => exact ⟨_, (t1174), (t1175), (!x23_33), (false), (by first | rfl | (simp; done) | (simp [*]; done)), (by first | rfl | (simp; done) | (simp [*]; done)), (by first | rfl | (simp; done) | (simp [*]; done)), H', ⟨by have := HJ14.out; have := HK2.out; have := HJ33.out; have := HK4.out; have := HJ37.out; have := HJ39.out; first | omega | exact Nat.le_refl _⟩, ⟨by (with_reducible repeat (first | apply Kd.R_alloc | apply Kd.R_drewN | apply Kd.R_drew)); exact HO_3.out⟩, ⟨by (with_reducible repeat (first | apply Kd.R_alloc | apply Kd.R_drewN | apply Kd.R_drew)); exact HO_8.out⟩, ⟨by (with_reducible repeat (first | apply Kd.R_alloc | apply Kd.R_drewN | apply Kd.R_drew)); exact HO_10.out⟩, ⟨by (with_reducible repeat (first | apply Kd.R_alloc | apply Kd.R_drewN | apply Kd.R_drew)); exact HO_12.out⟩, ⟨by (with_reducible repeat (first | apply Kd.R_alloc | apply Kd.R_drewN | apply Kd.R_drew)); exact HO_10.out⟩, ⟨by repeat (first | (with_reducible first | exact HB.out | apply below_alloc | apply pw_below_drewN | apply below_drew1) | exact HB.out)⟩⟩
                                            · replace c45 := Bool.eq_false_iff.mpr c45
                                              subst c45
                                              have H1 : (if t1196 = true then (laws_FnRegions.j6 kj39 t1161 (Int.tmod (rd t1164 0) 60) (wrap64 ((wrap64 ((Int.tmod (rd t1164 0) 60) + 1)) + (Int.tmod (rd t1164 1) 4))) ((Int.tmod (rd t1164 2) 2) == 0) t1170 t1173 t1174 t1175 t1178 t1179 x20_2 false t1196 x23_33 x24_4 t1174 t1175 false (!x23_33)) else (laws_FnRegions.j6 kj39 t1161 (Int.tmod (rd t1164 0) 60) (wrap64 ((wrap64 ((Int.tmod (rd t1164 0) 60) + 1)) + (Int.tmod (rd t1164 1) 4))) ((Int.tmod (rd t1164 2) 2) == 0) t1170 t1173 t1174 t1175 t1178 t1179 x20_2 false t1196 x23_33 x24_4 t1174 t1175 false false)) = some r := by rw [if_neg (show ¬ (false = true) by decide)] at H; exact H
                                              clear H
                                              have H := H1
                                              clear H1
                                              by_cases c47 : t1196 = true
                                              · subst c47
                                                have H1 : (laws_FnRegions.j6 kj39 t1161 (Int.tmod (rd t1164 0) 60) (wrap64 ((wrap64 ((Int.tmod (rd t1164 0) 60) + 1)) + (Int.tmod (rd t1164 1) 4))) ((Int.tmod (rd t1164 2) 2) == 0) t1170 t1173 t1174 t1175 t1178 t1179 x20_2 false true x23_33 x24_4 t1174 t1175 false (!x23_33)) = some r := by rw [if_pos rfl] at H; exact H
                                                clear H
                                                have H := H1
                                                clear H1
                                                have H' := Aside0.mk H
                                                clear H
                                                go_wp2
                                                go_meet
                                                case rel => exact ⟨_, (t1174), (t1175), (false), (!x23_33), (by first | rfl | (simp; done) | (simp [*]; done)), (by first | rfl | (simp; done) | (simp [*]; done)), (by first | rfl | (simp; done) | (simp [*]; done)), H', ⟨by have := HJ14.out; have := HK2.out; have := HJ33.out; have := HK4.out; have := HJ37.out; have := HJ39.out; first | omega | exact Nat.le_refl _⟩, ⟨by (with_reducible repeat (first | apply Kd.R_alloc | apply Kd.R_drewN | apply Kd.R_drew)); exact HO_3.out⟩, ⟨by (with_reducible repeat (first | apply Kd.R_alloc | apply Kd.R_drewN | apply Kd.R_drew)); exact HO_8.out⟩, ⟨by (with_reducible repeat (first | apply Kd.R_alloc | apply Kd.R_drewN | apply Kd.R_drew)); exact HO_10.out⟩, ⟨by (with_reducible repeat (first | apply Kd.R_alloc | apply Kd.R_drewN | apply Kd.R_drew)); exact HO_12.out⟩, ⟨by (with_reducible repeat (first | apply Kd.R_alloc | apply Kd.R_drewN | apply Kd.R_drew)); exact HO_10.out⟩, ⟨by repeat (first | (with_reducible first | exact HB.out | apply below_alloc | apply pw_below_drewN | apply below_drew1) | exact HB.out)⟩⟩
                                              · replace c47 := Bool.eq_false_iff.mpr c47
                                                subst c47
                                                have H1 : (laws_FnRegions.j6 kj39 t1161 (Int.tmod (rd t1164 0) 60) (wrap64 ((wrap64 ((Int.tmod (rd t1164 0) 60) + 1)) + (Int.tmod (rd t1164 1) 4))) ((Int.tmod (rd t1164 2) 2) == 0) t1170 t1173 t1174 t1175 t1178 t1179 x20_2 false false x23_33 x24_4 t1174 t1175 false false) = some r := by rw [if_neg (show ¬ (false = true) by decide)] at H; exact H
                                                clear H
                                                have H := H1
                                                clear H1
                                                have H' := Aside0.mk H
                                                clear H
                                                go_wp2
                                                go_meet
                                                case rel => exact ⟨_, (t1174), (t1175), (false), (false), (by first | rfl | (simp; done) | (simp [*]; done)), (by first | rfl | (simp; done) | (simp [*]; done)), (by first | rfl | (simp; done) | (simp [*]; done)), H', ⟨by have := HJ14.out; have := HK2.out; have := HJ33.out; have := HK4.out; have := HJ37.out; have := HJ39.out; first | omega | exact Nat.le_refl _⟩, ⟨by (with_reducible repeat (first | apply Kd.R_alloc | apply Kd.R_drewN | apply Kd.R_drew)); exact HO_3.out⟩, ⟨by (with_reducible repeat (first | apply Kd.R_alloc | apply Kd.R_drewN | apply Kd.R_drew)); exact HO_8.out⟩, ⟨by (with_reducible repeat (first | apply Kd.R_alloc | apply Kd.R_drewN | apply Kd.R_drew)); exact HO_10.out⟩, ⟨by (with_reducible repeat (first | apply Kd.R_alloc | apply Kd.R_drewN | apply Kd.R_drew)); exact HO_12.out⟩, ⟨by (with_reducible repeat (first | apply Kd.R_alloc | apply Kd.R_drewN | apply Kd.R_drew)); exact HO_10.out⟩, ⟨by repeat (first | (with_reducible first | exact HB.out | apply below_alloc | apply pw_below_drewN | apply below_drew1) | exact HB.out)⟩⟩
                                          · rw [if_neg c44] at H
                                            have c44b0 : (x24_4 == 1) = false := beq_eq_false_iff_ne.mpr c44
                                            have c44b1 : (x24_4 != 1) = true := bne_iff_ne.mpr c44
                                            (first | rw [c44b0] | (simp only [i64_w, i32_w]; rw [c44b0]) | skip)
                                            have H' := Aside0.mk H
                                            clear H
                                            go_wp2
                                            go_meet
                                            case rel => exact ⟨_, (t1170), (t1173), (x27_37), (x28_39), (by first | rfl | (simp; done) | (simp [*]; done)), (by first | rfl | (simp; done) | (simp [*]; done)), (by first | rfl | (simp; done) | (simp [*]; done)), H', ⟨by have := HJ14.out; have := HK2.out; have := HJ33.out; have := HK4.out; have := HJ37.out; have := HJ39.out; first | omega | exact Nat.le_refl _⟩, ⟨by (with_reducible repeat (first | apply Kd.R_alloc | apply Kd.R_drewN | apply Kd.R_drew)); exact HO_3.out⟩, ⟨by (with_reducible repeat (first | apply Kd.R_alloc | apply Kd.R_drewN | apply Kd.R_drew)); exact HO_8.out⟩, ⟨by (with_reducible repeat (first | apply Kd.R_alloc | apply Kd.R_drewN | apply Kd.R_drew)); exact HO_10.out⟩, ⟨by (with_reducible repeat (first | apply Kd.R_alloc | apply Kd.R_drewN | apply Kd.R_drew)); exact HO_12.out⟩, ⟨by (with_reducible repeat (first | apply Kd.R_alloc | apply Kd.R_drewN | apply Kd.R_drew)); exact HO_25.out⟩, ⟨by repeat (first | (with_reducible first | exact HB.out | apply below_alloc | apply pw_below_drewN | apply below_drew1) | exact HB.out)⟩⟩
                                        case rest => as_aux_lemma =>
                                          clear HC43
                                          try clear c1
                                          try clear p1
                                          try clear q1
                                          try clear hx1
                                          try clear qi1
                                          try clear c2
                                          try clear p2
                                          try clear c3
                                          try clear c4
                                          try clear c5
                                          try clear c6
                                          try clear c6b0
                                          try clear c6b1
                                          try clear p6
                                          try clear c7
                                          try clear c7b0
                                          try clear c7b1
                                          try clear c8
                                          try clear c8b0
                                          try clear c8b1
                                          try clear p11
                                          try clear q11
                                          try clear hx11
                                          try clear qi11
                                          try clear c13
                                          try clear c24
                                          try clear c26
                                          try clear c26b0
                                          try clear c26b1
                                          try clear c26b2
                                          try clear c27
                                          try clear c27b0
                                          try clear c27b1
                                          try clear c27b2
                                          try clear c28
                                          try clear c28b0
                                          try clear c28b1
                                          try clear c28b2
                                          try clear c30
                                          try clear c31
                                          try clear c32
                                          try clear c32b0
                                          try clear c36
                                          try clear c36b0
                                          try clear c37
                                          try clear c37b0
                                          try clear c39
                                          try clear c41
                                          try clear c42
                                          try clear c44
                                          try clear c44b0
                                          try clear c44b1
                                          try clear c45
                                          try clear c46
                                          try clear c47
                                          try clear hx1167_0
                                          try clear hx1168_0
                                          try clear hx1169_0
                                          try clear p1
                                          try clear p11
                                          try clear p1167
                                          try clear p1168
                                          try clear p1169
                                          try clear p2
                                          try clear p6
                                          try clear q1
                                          try clear q11
                                          try clear q1167
                                          try clear q1168
                                          try clear q1169
                                          obtain ⟨kq, x25_42, x26_42, x27_42, x28_42, rfl, rfl, rfl, HA, HJ42, HO_3, HO_8, HO_10, HO_12, HO_25, HB⟩ := hcut
                                          cases kq with
                                          | zero => exact absurd HA.out (by simp [laws_FnRegions.j6])
                                          | succ kj42 =>
                                            have H := HA.out
                                            clear HA
                                            simp only [laws_FnRegions.j6] at H
                                            have HC48 := Aside0.mk H
                                            clear H
                                            go_upto_if 169 with (fail)
                                            go_cut [25, 26, 27, 28] (fun v25 v26 v27 v28 wc => ∃ (kq : Nat) (x25_47 : List (S70)) (x26_47 : Bool) (x27_47 : Bool) (x28_47 : Bool), v26 = .bool x26_47 ∧ v27 = .bool x27_47 ∧ v28 = .bool x28_47 ∧ Aside0 (laws_FnRegions.j7 kq t1161 (Int.tmod (rd t1164 0) 60) (wrap64 ((wrap64 ((Int.tmod (rd t1164 0) 60) + 1)) + (Int.tmod (rd t1164 1) 4))) ((Int.tmod (rd t1164 2) 2) == 0) t1170 t1173 t1174 t1175 t1178 t1179 x20_2 t1195 t1196 x23_33 x24_4 x25_47 x26_47 x27_47 x28_47 = some r) ∧ Aside0 (kq ≤ kj42) ∧ Aside0 (Kd.R k70 70 wc w.heap.size (fun _ => True) (.slice Ao19 t1161.length co19) t1161) ∧ Aside0 (Kd.R k70 70 wc w.heap.size (fun _ => True) v1171 t1170) ∧ Aside0 (Kd.R k70 70 wc w.heap.size (fun _ => True) v1176 t1174) ∧ Aside0 (Kd.R k70 70 wc w.heap.size (fun _ => True) v1180 t1178) ∧ Aside0 (Kd.R k70 70 wc w.heap.size (fun _ => True) v25 x25_47) ∧ Aside0 (Below w.heap.size w wc))
                                            case first => as_aux_lemma =>
                                              have H := HC48.out
                                              clear HC48
                                              by_cases c49 : x24_4 = 2
                                              · rw [if_pos c49] at H
                                                have c49b0 : (x24_4 == 2) = true := beq_iff_eq.mpr c49
                                                have c49b1 : (x24_4 != 2) = false := bne_eq_false_iff_eq.mpr c49
                                                clear c49
                                                (first | rw [c49b0] | (simp only [i64_w, i32_w]; rw [c49b0]) | skip)
                                                by_cases c50 : t1196 = true
                                                · subst c50
                                                  have H1 : (if x23_33 = true then (laws_FnRegions.j7 kj42 t1161 (Int.tmod (rd t1164 0) 60) (wrap64 ((wrap64 ((Int.tmod (rd t1164 0) 60) + 1)) + (Int.tmod (rd t1164 1) 4))) ((Int.tmod (rd t1164 2) 2) == 0) t1170 t1173 t1174 t1175 t1178 t1179 x20_2 t1195 true x23_33 x24_4 t1178 t1179 t1195 ((Int.tmod (rd t1164 2) 2) == 0)) else (laws_FnRegions.j7 kj42 t1161 (Int.tmod (rd t1164 0) 60) (wrap64 ((wrap64 ((Int.tmod (rd t1164 0) 60) + 1)) + (Int.tmod (rd t1164 1) 4))) ((Int.tmod (rd t1164 2) 2) == 0) t1170 t1173 t1174 t1175 t1178 t1179 x20_2 t1195 true x23_33 x24_4 t1178 t1179 t1195 true)) = some r := by rw [if_pos rfl] at H; exact H
                                                  clear H
                                                  have H := H1
                                                  clear H1
                                                  by_cases c51 : x23_33 = true
                                                  · subst c51
                                                    have H1 : (laws_FnRegions.j7 kj42 t1161 (Int.tmod (rd t1164 0) 60) (wrap64 ((wrap64 ((Int.tmod (rd t1164 0) 60) + 1)) + (Int.tmod (rd t1164 1) 4))) ((Int.tmod (rd t1164 2) 2) == 0) t1170 t1173 t1174 t1175 t1178 t1179 x20_2 t1195 true true x24_4 t1178 t1179 t1195 ((Int.tmod (rd t1164 2) 2) == 0)) = some r := by rw [if_pos rfl] at H; exact H
                                                    clear H
                                                    have H := H1
                                                    clear H1
                                                    have H' := Aside0.mk H
                                                    clear H
                                                    go_wp2
                                                    go_meet
                                                    case rel => exact ⟨_, (t1178), (t1179), (t1195), (((Int.tmod (rd t1164 2) 2) == 0)), (by first | rfl | (simp; done) | (simp [*]; done)), (by first | rfl | (simp; done) | (simp [*]; done)), (by first | rfl | (simp; done) | (simp [*]; done)), H', ⟨by have := HJ14.out; have := HK2.out; have := HJ33.out; have := HK4.out; have := HJ37.out; have := HJ39.out; have := HJ42.out; first | omega | exact Nat.le_refl _⟩, ⟨by (with_reducible repeat (first | apply Kd.R_alloc | apply Kd.R_drewN | apply Kd.R_drew)); exact HO_3.out⟩, ⟨by (with_reducible repeat (first | apply Kd.R_alloc | apply Kd.R_drewN | apply Kd.R_drew)); exact HO_8.out⟩, ⟨by (with_reducible repeat (first | apply Kd.R_alloc | apply Kd.R_drewN | apply Kd.R_drew)); exact HO_10.out⟩, ⟨by (with_reducible repeat (first | apply Kd.R_alloc | apply Kd.R_drewN | apply Kd.R_drew)); exact HO_12.out⟩, ⟨by (with_reducible repeat (first | apply Kd.R_alloc | apply Kd.R_drewN | apply Kd.R_drew)); exact HO_12.out⟩, ⟨by repeat (first | (with_reducible first | exact HB.out | apply below_alloc | apply pw_below_drewN | apply below_drew1) | exact HB.out)⟩⟩
                                                  · replace c51 := Bool.eq_false_iff.mpr c51
                                                    subst c51
                                                    have H1 : (laws_FnRegions.j7 kj42 t1161 (Int.tmod (rd t1164 0) 60) (wrap64 ((wrap64 ((Int.tmod (rd t1164 0) 60) + 1)) + (Int.tmod (rd t1164 1) 4))) ((Int.tmod (rd t1164 2) 2) == 0) t1170 t1173 t1174 t1175 t1178 t1179 x20_2 t1195 true false x24_4 t1178 t1179 t1195 true) = some r := by rw [if_neg (show ¬ (false = true) by decide)] at H; exact H
                                                    clear H
                                                    have H := H1
                                                    clear H1
                                                    have H' := Aside0.mk H
                                                    clear H
                                                    go_wp2
                                                    go_meet
                                                    case rel => exact ⟨_, (t1178), (t1179), (t1195), (true), (by first | rfl | (simp; done) | (simp [*]; done)), (by first | rfl | (simp; done) | (simp [*]; done)), (by first | rfl | (simp; done) | (simp [*]; done)), H', ⟨by have := HJ14.out; have := HK2.out; have := HJ33.out; have := HK4.out; have := HJ37.out; have := HJ39.out; have := HJ42.out; first | omega | exact Nat.le_refl _⟩, ⟨by (with_reducible repeat (first | apply Kd.R_alloc | apply Kd.R_drewN | apply Kd.R_drew)); exact HO_3.out⟩, ⟨by (with_reducible repeat (first | apply Kd.R_alloc | apply Kd.R_drewN | apply Kd.R_drew)); exact HO_8.out⟩, ⟨by (with_reducible repeat (first | apply Kd.R_alloc | apply Kd.R_drewN | apply Kd.R_drew)); exact HO_10.out⟩, ⟨by (with_reducible repeat (first | apply Kd.R_alloc | apply Kd.R_drewN | apply Kd.R_drew)); exact HO_12.out⟩, ⟨by (with_reducible repeat (first | apply Kd.R_alloc | apply Kd.R_drewN | apply Kd.R_drew)); exact HO_12.out⟩, ⟨by repeat (first | (with_reducible first | exact HB.out | apply below_alloc | apply pw_below_drewN | apply below_drew1) | exact HB.out)⟩⟩
                                                · replace c50 := Bool.eq_false_iff.mpr c50
                                                  subst c50
                                                  have H1 : (if x23_33 = true then (laws_FnRegions.j7 kj42 t1161 (Int.tmod (rd t1164 0) 60) (wrap64 ((wrap64 ((Int.tmod (rd t1164 0) 60) + 1)) + (Int.tmod (rd t1164 1) 4))) ((Int.tmod (rd t1164 2) 2) == 0) t1170 t1173 t1174 t1175 t1178 t1179 x20_2 t1195 false x23_33 x24_4 t1178 t1179 t1195 ((Int.tmod (rd t1164 2) 2) == 0)) else (laws_FnRegions.j7 kj42 t1161 (Int.tmod (rd t1164 0) 60) (wrap64 ((wrap64 ((Int.tmod (rd t1164 0) 60) + 1)) + (Int.tmod (rd t1164 1) 4))) ((Int.tmod (rd t1164 2) 2) == 0) t1170 t1173 t1174 t1175 t1178 t1179 x20_2 t1195 false x23_33 x24_4 t1178 t1179 t1195 false)) = some r := by rw [if_neg (show ¬ (false = true) by decide)] at H; exact H
                                                  clear H
                                                  have H := H1
                                                  clear H1
                                                  by_cases c52 : x23_33 = true
                                                  · subst c52
                                                    have H1 : (laws_FnRegions.j7 kj42 t1161 (Int.tmod (rd t1164 0) 60) (wrap64 ((wrap64 ((Int.tmod (rd t1164 0) 60) + 1)) + (Int.tmod (rd t1164 1) 4))) ((Int.tmod (rd t1164 2) 2) == 0) t1170 t1173 t1174 t1175 t1178 t1179 x20_2 t1195 false true x24_4 t1178 t1179 t1195 ((Int.tmod (rd t1164 2) 2) == 0)) = some r := by rw [if_pos rfl] at H; exact H
                                                    clear H
                                                    have H := H1
                                                    clear H1
                                                    have H' := Aside0.mk H
                                                    clear H
                                                    go_wp2
                                                    go_meet
                                                    case rel => exact ⟨_, (t1178), (t1179), (t1195), (((Int.tmod (rd t1164 2) 2) == 0)), (by first | rfl | (simp; done) | (simp [*]; done)), (by first | rfl | (simp; done) | (simp [*]; done)), (by first | rfl | (simp; done) | (simp [*]; done)), H', ⟨by have := HJ14.out; have := HK2.out; have := HJ33.out; have := HK4.out; have := HJ37.out; have := HJ39.out; have := HJ42.out; first | omega | exact Nat.le_refl _⟩, ⟨by (with_reducible repeat (first | apply Kd.R_alloc | apply Kd.R_drewN | apply Kd.R_drew)); exact HO_3.out⟩, ⟨by (with_reducible repeat (first | apply Kd.R_alloc | apply Kd.R_drewN | apply Kd.R_drew)); exact HO_8.out⟩, ⟨by (with_reducible repeat (first | apply Kd.R_alloc | apply Kd.R_drewN | apply Kd.R_drew)); exact HO_10.out⟩, ⟨by (with_reducible repeat (first | apply Kd.R_alloc | apply Kd.R_drewN | apply Kd.R_drew)); exact HO_12.out⟩, ⟨by (with_reducible repeat (first | apply Kd.R_alloc | apply Kd.R_drewN | apply Kd.R_drew)); exact HO_12.out⟩, ⟨by repeat (first | (with_reducible first | exact HB.out | apply below_alloc | apply pw_below_drewN | apply below_drew1) | exact HB.out)⟩⟩
                                                  · replace c52 := Bool.eq_false_iff.mpr c52
                                                    subst c52
                                                    have H1 : (laws_FnRegions.j7 kj42 t1161 (Int.tmod (rd t1164 0) 60) (wrap64 ((wrap64 ((Int.tmod (rd t1164 0) 60) + 1)) + (Int.tmod (rd t1164 1) 4))) ((Int.tmod (rd t1164 2) 2) == 0) t1170 t1173 t1174 t1175 t1178 t1179 x20_2 t1195 false false x24_4 t1178 t1179 t1195 false) = some r := by rw [if_neg (show ¬ (false = true) by decide)] at H; exact H
                                                    clear H
                                                    have H := H1
                                                    clear H1
                                                    have H' := Aside0.mk H
                                                    clear H
                                                    go_wp2
                                                    go_meet
                                                    case rel => exact ⟨_, (t1178), (t1179), (t1195), (false), (by first | rfl | (simp; done) | (simp [*]; done)), (by first | rfl | (simp; done) | (simp [*]; done)), (by first | rfl | (simp; done) | (simp [*]; done)), H', ⟨by have := HJ14.out; have := HK2.out; have := HJ33.out; have := HK4.out; have := HJ37.out; have := HJ39.out; have := HJ42.out; first | omega | exact Nat.le_refl _⟩, ⟨by (with_reducible repeat (first | apply Kd.R_alloc | apply Kd.R_drewN | apply Kd.R_drew)); exact HO_3.out⟩, ⟨by (with_reducible repeat (first | apply Kd.R_alloc | apply Kd.R_drewN | apply Kd.R_drew)); exact HO_8.out⟩, ⟨by (with_reducible repeat (first | apply Kd.R_alloc | apply Kd.R_drewN | apply Kd.R_drew)); exact HO_10.out⟩, ⟨by (with_reducible repeat (first | apply Kd.R_alloc | apply Kd.R_drewN | apply Kd.R_drew)); exact HO_12.out⟩, ⟨by (with_reducible repeat (first | apply Kd.R_alloc | apply Kd.R_drewN | apply Kd.R_drew)); exact HO_12.out⟩, ⟨by repeat (first | (with_reducible first | exact HB.out | apply below_alloc | apply pw_below_drewN | apply below_drew1) | exact HB.out)⟩⟩
                                              · rw [if_neg c49] at H
                                                have c49b0 : (x24_4 == 2) = false := beq_eq_false_iff_ne.mpr c49
                                                have c49b1 : (x24_4 != 2) = true := bne_iff_ne.mpr c49
                                                (first | rw [c49b0] | (simp only [i64_w, i32_w]; rw [c49b0]) | skip)
                                                have H' := Aside0.mk H
                                                clear H
                                                go_wp2
                                                go_meet
                                                case rel => exact ⟨_, (x25_42), (x26_42), (x27_42), (x28_42), (by first | rfl | (simp; done) | (simp [*]; done)), (by first | rfl | (simp; done) | (simp [*]; done)), (by first | rfl | (simp; done) | (simp [*]; done)), H', ⟨by have := HJ14.out; have := HK2.out; have := HJ33.out; have := HK4.out; have := HJ37.out; have := HJ39.out; have := HJ42.out; first | omega | exact Nat.le_refl _⟩, ⟨by (with_reducible repeat (first | apply Kd.R_alloc | apply Kd.R_drewN | apply Kd.R_drew)); exact HO_3.out⟩, ⟨by (with_reducible repeat (first | apply Kd.R_alloc | apply Kd.R_drewN | apply Kd.R_drew)); exact HO_8.out⟩, ⟨by (with_reducible repeat (first | apply Kd.R_alloc | apply Kd.R_drewN | apply Kd.R_drew)); exact HO_10.out⟩, ⟨by (with_reducible repeat (first | apply Kd.R_alloc | apply Kd.R_drewN | apply Kd.R_drew)); exact HO_12.out⟩, ⟨by (with_reducible repeat (first | apply Kd.R_alloc | apply Kd.R_drewN | apply Kd.R_drew)); exact HO_25.out⟩, ⟨by repeat (first | (with_reducible first | exact HB.out | apply below_alloc | apply pw_below_drewN | apply below_drew1) | exact HB.out)⟩⟩
                                            case rest => as_aux_lemma =>
                                              clear HC48
                                              try clear c1
                                              try clear p1
                                              try clear q1
                                              try clear hx1
                                              try clear qi1
                                              try clear c2
                                              try clear p2
                                              try clear c3
                                              try clear c4
                                              try clear c5
                                              try clear c6
                                              try clear c6b0
                                              try clear c6b1
                                              try clear p6
                                              try clear c7
                                              try clear c7b0
                                              try clear c7b1
                                              try clear c8
                                              try clear c8b0
                                              try clear c8b1
                                              try clear p11
                                              try clear q11
                                              try clear hx11
                                              try clear qi11
                                              try clear c13
                                              try clear c24
                                              try clear c26
                                              try clear c26b0
                                              try clear c26b1
                                              try clear c26b2
                                              try clear c27
                                              try clear c27b0
                                              try clear c27b1
                                              try clear c27b2
                                              try clear c28
                                              try clear c28b0
                                              try clear c28b1
                                              try clear c28b2
                                              try clear c30
                                              try clear c31
                                              try clear c32
                                              try clear c32b0
                                              try clear c36
                                              try clear c36b0
                                              try clear c37
                                              try clear c37b0
                                              try clear c39
                                              try clear c41
                                              try clear c42
                                              try clear c44
                                              try clear c44b0
                                              try clear c44b1
                                              try clear c45
                                              try clear c46
                                              try clear c47
                                              try clear c49
                                              try clear c49b0
                                              try clear c49b1
                                              try clear c50
                                              try clear c51
                                              try clear c52
                                              try clear hx1167_0
                                              try clear hx1168_0
                                              try clear hx1169_0
                                              try clear p1
                                              try clear p11
                                              try clear p1167
                                              try clear p1168
                                              try clear p1169
                                              try clear p2
                                              try clear p6
                                              try clear q1
                                              try clear q11
                                              try clear q1167
                                              try clear q1168
                                              try clear q1169
                                              obtain ⟨kq, x25_47, x26_47, x27_47, x28_47, rfl, rfl, rfl, HA, HJ47, HO_3, HO_8, HO_10, HO_12, HO_25, HB⟩ := hcut
                                              cases kq with
                                              | zero => exact absurd HA.out (by simp [laws_FnRegions.j7])
                                              | succ kj47 =>
                                                have H := HA.out
                                                clear HA
                                                simp only [laws_FnRegions.j7] at H
                                                replace H := Option.bind_eq_some_iff.mp H
                                                obtain ⟨⟨t1197, t1198⟩, A530, H⟩ := H
                                                replace H : (if x26_47 = true then (if (t1197 != x27_47) = true then (some false) else (if (t1198 != x28_47) = true then (some false) else ((impl_RegionsOk.f kj47 x25_47).bind fun t1199 => (if t1199 = true then (laws_FnRegions.l1 kj47 t1161 (Int.tmod (rd t1164 0) 60) (wrap64 ((wrap64 ((Int.tmod (rd t1164 0) 60) + 1)) + (Int.tmod (rd t1164 1) 4))) ((Int.tmod (rd t1164 2) 2) == 0) t1170 t1173 t1174 t1175 t1178 t1179 x20_2 t1195 t1196 x23_33 (wrap64 (x24_4 + 1))) else (some false))))) else (laws_FnRegions.l1 kj47 t1161 (Int.tmod (rd t1164 0) 60) (wrap64 ((wrap64 ((Int.tmod (rd t1164 0) 60) + 1)) + (Int.tmod (rd t1164 1) 4))) ((Int.tmod (rd t1164 2) 2) == 0) t1170 t1173 t1174 t1175 t1178 t1179 x20_2 t1195 t1196 x23_33 (wrap64 (x24_4 + 1)))) = some r := H
                                                have A53 := Aside0.mk A530
                                                clear A530
                                                by_cases c54 : x26_47 = true
                                                · subst c54
                                                  have H1 : (if (t1197 != x27_47) = true then (some false) else (if (t1198 != x28_47) = true then (some false) else ((impl_RegionsOk.f kj47 x25_47).bind fun t1199 => (if t1199 = true then (laws_FnRegions.l1 kj47 t1161 (Int.tmod (rd t1164 0) 60) (wrap64 ((wrap64 ((Int.tmod (rd t1164 0) 60) + 1)) + (Int.tmod (rd t1164 1) 4))) ((Int.tmod (rd t1164 2) 2) == 0) t1170 t1173 t1174 t1175 t1178 t1179 x20_2 t1195 t1196 x23_33 (wrap64 (x24_4 + 1))) else (some false))))) = some r := by rw [if_pos rfl] at H; exact H
                                                  clear H
                                                  have H := H1
                                                  clear H1
                                                  by_cases c55 : (t1197 != x27_47) = true
                                                  · rw [if_pos c55] at H
                                                    have c55b0 : (t1197 != x27_47) = true := c55
                                                    (try (have c55b1 : decide (t1197 = x27_47) = false := by simpa using c55))
                                                    (try (have c55b2 : (t1197 == x27_47) = false := by simpa using c55))
                                                    (try (have c55b3 : ¬ (t1197 = x27_47) := by simpa using c55))
                                                    clear c55
                                                    obtain rfl := Option.some.inj H
                                                    obtain ⟨Ao56, co56, eo56⟩ := Kd.R_slice HO_25.out
                                                    subst eo56
                                                    go_wp2_with (first | ((with_reducible refine gate_callee (f := 66) rfl ?_); refine goesL_ (some 187) rfl rfl Try.func66 (by kernel_rfl) rfl #[.slice Ao56 x25_47.length co56, .int .i64 x20_2] rfl (by (try simp only [List.map_toArray, List.map_cons, List.map_nil]); first | done | rfl | (simp only [List.length_drop, List.length_take]; rfl)) ?_; (with_reducible refine (impl_Allowed.calls kj47 _ _ x25_47 x20_2 t1197 t1198 _ ?side1 ?side2 A53.out).mono ?_); (case side1 => repeat (first | exact (Kd.R_reads' HO_25.out).2.2 | (with_reducible refine Kd.C_alloc ?_ _) | (with_reducible refine Kd.C_drewN ?_ _) | (with_reducible refine Kd.C_drew ?_))); (case side2 => exact (Kd.R_reads' HO_25.out).2.1); rintro e w57 ⟨rfl, hb⟩; refine ⟨_, rfl, ?_⟩; have n0_ := Aside0.mk (Kd.R_below (by (with_reducible repeat (first | apply Kd.R_alloc | apply Kd.R_drewN | apply Kd.R_drew)); exact HO_3.out) hb); have n1_ := Aside0.mk (Kd.R_below (by (with_reducible repeat (first | apply Kd.R_alloc | apply Kd.R_drewN | apply Kd.R_drew)); exact HO_8.out) hb); have n2_ := Aside0.mk (Kd.R_below (by (with_reducible repeat (first | apply Kd.R_alloc | apply Kd.R_drewN | apply Kd.R_drew)); exact HO_10.out) hb); have n3_ := Aside0.mk (Kd.R_below (by (with_reducible repeat (first | apply Kd.R_alloc | apply Kd.R_drewN | apply Kd.R_drew)); exact HO_12.out) hb); have n4_ := Aside0.mk (Kd.R_below (by (with_reducible repeat (first | apply Kd.R_alloc | apply Kd.R_drewN | apply Kd.R_drew)); exact HO_25.out) hb); have n5_ := Aside0.mk (below_step (by repeat (first | (with_reducible first | exact HB.out | apply below_alloc | apply pw_below_drewN | apply below_drew1) | exact HB.out)) hb); clear HO_3; clear HO_8; clear HO_10; clear HO_12; clear HO_25; clear HB; have HO_3 := n0_; have HO_8 := n1_; have HO_10 := n2_; have HO_12 := n3_; have HO_25 := n4_; have HB := n5_; clear n0_ n1_ n2_ n3_ n4_ n5_; (try clear hb); (try clear hb2); (try clear hk); (try clear hi)))
                                                    go_ret
                                                    exact ⟨by first | rfl | (simp [errW_none, errW_some] <;> rfl) | (simp [*, errW_none, errW_some] <;> rfl), by repeat (first | (with_reducible first | exact HB.out | apply below_alloc | apply pw_below_drewN | apply below_drew1) | exact HB.out)⟩
                                                  · rw [if_neg c55] at H
                                                    have c55b0 : (t1197 != x27_47) = false := by simpa using c55
                                                    (try (have c55b1 : decide (t1197 = x27_47) = true := by simpa using c55))
                                                    (try (have c55b2 : (t1197 == x27_47) = true := by simpa using c55))
                                                    clear c55
                                                    by_cases c58 : (t1198 != x28_47) = true
                                                    · rw [if_pos c58] at H
                                                      have c58b0 : (t1198 != x28_47) = true := c58
                                                      (try (have c58b1 : decide (t1198 = x28_47) = false := by simpa using c58))
                                                      (try (have c58b2 : (t1198 == x28_47) = false := by simpa using c58))
                                                      (try (have c58b3 : ¬ (t1198 = x28_47) := by simpa using c58))
                                                      clear c58
                                                      obtain rfl := Option.some.inj H
                                                      obtain ⟨Ao59, co59, eo59⟩ := Kd.R_slice HO_25.out
                                                      subst eo59
                                                      go_wp2_with (first | ((with_reducible refine gate_callee (f := 66) rfl ?_); refine goesL_ (some 187) rfl rfl Try.func66 (by kernel_rfl) rfl #[.slice Ao59 x25_47.length co59, .int .i64 x20_2] rfl (by (try simp only [List.map_toArray, List.map_cons, List.map_nil]); first | done | rfl | (simp only [List.length_drop, List.length_take]; rfl)) ?_; (with_reducible refine (impl_Allowed.calls kj47 _ _ x25_47 x20_2 t1197 t1198 _ ?side1 ?side2 A53.out).mono ?_); (case side1 => repeat (first | exact (Kd.R_reads' HO_25.out).2.2 | (with_reducible refine Kd.C_alloc ?_ _) | (with_reducible refine Kd.C_drewN ?_ _) | (with_reducible refine Kd.C_drew ?_))); (case side2 => exact (Kd.R_reads' HO_25.out).2.1); rintro e w60 ⟨rfl, hb⟩; refine ⟨_, rfl, ?_⟩; have n0_ := Aside0.mk (Kd.R_below (by (with_reducible repeat (first | apply Kd.R_alloc | apply Kd.R_drewN | apply Kd.R_drew)); exact HO_3.out) hb); have n1_ := Aside0.mk (Kd.R_below (by (with_reducible repeat (first | apply Kd.R_alloc | apply Kd.R_drewN | apply Kd.R_drew)); exact HO_8.out) hb); have n2_ := Aside0.mk (Kd.R_below (by (with_reducible repeat (first | apply Kd.R_alloc | apply Kd.R_drewN | apply Kd.R_drew)); exact HO_10.out) hb); have n3_ := Aside0.mk (Kd.R_below (by (with_reducible repeat (first | apply Kd.R_alloc | apply Kd.R_drewN | apply Kd.R_drew)); exact HO_12.out) hb); have n4_ := Aside0.mk (Kd.R_below (by (with_reducible repeat (first | apply Kd.R_alloc | apply Kd.R_drewN | apply Kd.R_drew)); exact HO_25.out) hb); have n5_ := Aside0.mk (below_step (by repeat (first | (with_reducible first | exact HB.out | apply below_alloc | apply pw_below_drewN | apply below_drew1) | exact HB.out)) hb); clear HO_3; clear HO_8; clear HO_10; clear HO_12; clear HO_25; clear HB; have HO_3 := n0_; have HO_8 := n1_; have HO_10 := n2_; have HO_12 := n3_; have HO_25 := n4_; have HB := n5_; clear n0_ n1_ n2_ n3_ n4_ n5_; (try clear hb); (try clear hb2); (try clear hk); (try clear hi)))
                                                      go_ret
                                                      exact ⟨by first | rfl | (simp [errW_none, errW_some] <;> rfl) | (simp [*, errW_none, errW_some] <;> rfl), by repeat (first | (with_reducible first | exact HB.out | apply below_alloc | apply pw_below_drewN | apply below_drew1) | exact HB.out)⟩
                                                    · rw [if_neg c58] at H
                                                      have c58b0 : (t1198 != x28_47) = false := by simpa using c58
                                                      (try (have c58b1 : decide (t1198 = x28_47) = true := by simpa using c58))
                                                      (try (have c58b2 : (t1198 == x28_47) = true := by simpa using c58))
                                                      clear c58
                                                      replace H := Option.bind_eq_some_iff.mp H
                                                      obtain ⟨t1199, A610, H⟩ := H
                                                      replace H : (if t1199 = true then (laws_FnRegions.l1 kj47 t1161 (Int.tmod (rd t1164 0) 60) (wrap64 ((wrap64 ((Int.tmod (rd t1164 0) 60) + 1)) + (Int.tmod (rd t1164 1) 4))) ((Int.tmod (rd t1164 2) 2) == 0) t1170 t1173 t1174 t1175 t1178 t1179 x20_2 t1195 t1196 x23_33 (wrap64 (x24_4 + 1))) else (some false)) = some r := H
                                                      have A61 := Aside0.mk A610
                                                      clear A610
                                                      by_cases c62 : t1199 = true
                                                      · subst c62
                                                        have H1 : (laws_FnRegions.l1 kj47 t1161 (Int.tmod (rd t1164 0) 60) (wrap64 ((wrap64 ((Int.tmod (rd t1164 0) 60) + 1)) + (Int.tmod (rd t1164 1) 4))) ((Int.tmod (rd t1164 2) 2) == 0) t1170 t1173 t1174 t1175 t1178 t1179 x20_2 t1195 t1196 x23_33 (wrap64 (x24_4 + 1))) = some r := by rw [if_pos rfl] at H; exact H
                                                        clear H
                                                        have H := H1
                                                        clear H1
                                                        have H' := Aside0.mk H
                                                        clear H
                                                        obtain ⟨Ao63, co63, eo63⟩ := Kd.R_slice HO_25.out
                                                        subst eo63
                                                        go_wp2_with (first | ((with_reducible refine gate_callee (f := 66) rfl ?_); refine goesL_ (some 187) rfl rfl Try.func66 (by kernel_rfl) rfl #[.slice Ao63 x25_47.length co63, .int .i64 x20_2] rfl (by (try simp only [List.map_toArray, List.map_cons, List.map_nil]); first | done | rfl | (simp only [List.length_drop, List.length_take]; rfl)) ?_; (with_reducible refine (impl_Allowed.calls kj47 _ _ x25_47 x20_2 t1197 t1198 _ ?side1 ?side2 A53.out).mono ?_); (case side1 => repeat (first | exact (Kd.R_reads' HO_25.out).2.2 | (with_reducible refine Kd.C_alloc ?_ _) | (with_reducible refine Kd.C_drewN ?_ _) | (with_reducible refine Kd.C_drew ?_))); (case side2 => exact (Kd.R_reads' HO_25.out).2.1); rintro e w64 ⟨rfl, hb⟩; refine ⟨_, rfl, ?_⟩; have n0_ := Aside0.mk (Kd.R_below (by (with_reducible repeat (first | apply Kd.R_alloc | apply Kd.R_drewN | apply Kd.R_drew)); exact HO_3.out) hb); have n1_ := Aside0.mk (Kd.R_below (by (with_reducible repeat (first | apply Kd.R_alloc | apply Kd.R_drewN | apply Kd.R_drew)); exact HO_8.out) hb); have n2_ := Aside0.mk (Kd.R_below (by (with_reducible repeat (first | apply Kd.R_alloc | apply Kd.R_drewN | apply Kd.R_drew)); exact HO_10.out) hb); have n3_ := Aside0.mk (Kd.R_below (by (with_reducible repeat (first | apply Kd.R_alloc | apply Kd.R_drewN | apply Kd.R_drew)); exact HO_12.out) hb); have n4_ := Aside0.mk (Kd.R_below (by (with_reducible repeat (first | apply Kd.R_alloc | apply Kd.R_drewN | apply Kd.R_drew)); exact HO_25.out) hb); have n5_ := Aside0.mk (below_step (by repeat (first | (with_reducible first | exact HB.out | apply below_alloc | apply pw_below_drewN | apply below_drew1) | exact HB.out)) hb); clear HO_3; clear HO_8; clear HO_10; clear HO_12; clear HO_25; clear HB; have HO_3 := n0_; have HO_8 := n1_; have HO_10 := n2_; have HO_12 := n3_; have HO_25 := n4_; have HB := n5_; clear n0_ n1_ n2_ n3_ n4_ n5_; (try clear hb); (try clear hb2); (try clear hk); (try clear hi)) | (go_at_call 64; (with_reducible refine (impl_RegionsOk.calls kj47 _ _ x25_47 true _ ?side1 ?side2 A61.out).mono ?_); (case side1 => repeat (first | exact (Kd.R_reads' HO_25.out).2.2 | (with_reducible refine Kd.C_alloc ?_ _) | (with_reducible refine Kd.C_drewN ?_ _) | (with_reducible refine Kd.C_drew ?_))); (case side2 => exact (Kd.R_reads' HO_25.out).2.1); rintro e w65 ⟨rfl, hb⟩; have n0_ := Aside0.mk (Kd.R_below (by (with_reducible repeat (first | apply Kd.R_alloc | apply Kd.R_drewN | apply Kd.R_drew)); exact HO_3.out) hb); have n1_ := Aside0.mk (Kd.R_below (by (with_reducible repeat (first | apply Kd.R_alloc | apply Kd.R_drewN | apply Kd.R_drew)); exact HO_8.out) hb); have n2_ := Aside0.mk (Kd.R_below (by (with_reducible repeat (first | apply Kd.R_alloc | apply Kd.R_drewN | apply Kd.R_drew)); exact HO_10.out) hb); have n3_ := Aside0.mk (Kd.R_below (by (with_reducible repeat (first | apply Kd.R_alloc | apply Kd.R_drewN | apply Kd.R_drew)); exact HO_12.out) hb); have n4_ := Aside0.mk (Kd.R_below (by (with_reducible repeat (first | apply Kd.R_alloc | apply Kd.R_drewN | apply Kd.R_drew)); exact HO_25.out) hb); have n5_ := Aside0.mk (below_step (by repeat (first | (with_reducible first | exact HB.out | apply below_alloc | apply pw_below_drewN | apply below_drew1) | exact HB.out)) hb); clear HO_3; clear HO_8; clear HO_10; clear HO_12; clear HO_25; clear HB; have HO_3 := n0_; have HO_8 := n1_; have HO_10 := n2_; have HO_12 := n3_; have HO_25 := n4_; have HB := n5_; clear n0_ n1_ n2_ n3_ n4_ n5_; (try clear hb); (try clear hb2); (try clear hk); (try clear hi)))
                                                        go_roundg kj47
                                                        case measure => have := HJ14.out; have := HK2.out; have := HJ33.out; have := HK4.out; have := HJ37.out; have := HJ39.out; have := HJ42.out; have := HJ47.out; omega
                                                        case rel => exact ⟨(wrap64 (x24_4 + 1)), (by first | rfl | (simp; done) | (simp [*]; done)), H', ⟨by have := HJ14.out; have := HK2.out; have := HJ33.out; have := HK4.out; have := HJ37.out; have := HJ39.out; have := HJ42.out; have := HJ47.out; omega⟩, ⟨by (with_reducible repeat (first | apply Kd.R_alloc | apply Kd.R_drewN | apply Kd.R_drew)); exact HO_3.out⟩, ⟨by (with_reducible repeat (first | apply Kd.R_alloc | apply Kd.R_drewN | apply Kd.R_drew)); exact HO_8.out⟩, ⟨by (with_reducible repeat (first | apply Kd.R_alloc | apply Kd.R_drewN | apply Kd.R_drew)); exact HO_10.out⟩, ⟨by (with_reducible repeat (first | apply Kd.R_alloc | apply Kd.R_drewN | apply Kd.R_drew)); exact HO_12.out⟩, ⟨by repeat (first | (with_reducible first | exact HB.out | apply below_alloc | apply pw_below_drewN | apply below_drew1) | exact HB.out)⟩⟩
                                                      · replace c62 := Bool.eq_false_iff.mpr c62
                                                        subst c62
                                                        have H1 : (some false) = some r := by rw [if_neg (show ¬ (false = true) by decide)] at H; exact H
                                                        clear H
                                                        have H := H1
                                                        clear H1
                                                        obtain rfl := Option.some.inj H
                                                        obtain ⟨Ao66, co66, eo66⟩ := Kd.R_slice HO_25.out
                                                        subst eo66
                                                        go_wp2_with (first | ((with_reducible refine gate_callee (f := 66) rfl ?_); refine goesL_ (some 187) rfl rfl Try.func66 (by kernel_rfl) rfl #[.slice Ao66 x25_47.length co66, .int .i64 x20_2] rfl (by (try simp only [List.map_toArray, List.map_cons, List.map_nil]); first | done | rfl | (simp only [List.length_drop, List.length_take]; rfl)) ?_; (with_reducible refine (impl_Allowed.calls kj47 _ _ x25_47 x20_2 t1197 t1198 _ ?side1 ?side2 A53.out).mono ?_); (case side1 => repeat (first | exact (Kd.R_reads' HO_25.out).2.2 | (with_reducible refine Kd.C_alloc ?_ _) | (with_reducible refine Kd.C_drewN ?_ _) | (with_reducible refine Kd.C_drew ?_))); (case side2 => exact (Kd.R_reads' HO_25.out).2.1); rintro e w67 ⟨rfl, hb⟩; refine ⟨_, rfl, ?_⟩; have n0_ := Aside0.mk (Kd.R_below (by (with_reducible repeat (first | apply Kd.R_alloc | apply Kd.R_drewN | apply Kd.R_drew)); exact HO_3.out) hb); have n1_ := Aside0.mk (Kd.R_below (by (with_reducible repeat (first | apply Kd.R_alloc | apply Kd.R_drewN | apply Kd.R_drew)); exact HO_8.out) hb); have n2_ := Aside0.mk (Kd.R_below (by (with_reducible repeat (first | apply Kd.R_alloc | apply Kd.R_drewN | apply Kd.R_drew)); exact HO_10.out) hb); have n3_ := Aside0.mk (Kd.R_below (by (with_reducible repeat (first | apply Kd.R_alloc | apply Kd.R_drewN | apply Kd.R_drew)); exact HO_12.out) hb); have n4_ := Aside0.mk (Kd.R_below (by (with_reducible repeat (first | apply Kd.R_alloc | apply Kd.R_drewN | apply Kd.R_drew)); exact HO_25.out) hb); have n5_ := Aside0.mk (below_step (by repeat (first | (with_reducible first | exact HB.out | apply below_alloc | apply pw_below_drewN | apply below_drew1) | exact HB.out)) hb); clear HO_3; clear HO_8; clear HO_10; clear HO_12; clear HO_25; clear HB; have HO_3 := n0_; have HO_8 := n1_; have HO_10 := n2_; have HO_12 := n3_; have HO_25 := n4_; have HB := n5_; clear n0_ n1_ n2_ n3_ n4_ n5_; (try clear hb); (try clear hb2); (try clear hk); (try clear hi)) | (go_at_call 64; (with_reducible refine (impl_RegionsOk.calls kj47 _ _ x25_47 false _ ?side1 ?side2 A61.out).mono ?_); (case side1 => repeat (first | exact (Kd.R_reads' HO_25.out).2.2 | (with_reducible refine Kd.C_alloc ?_ _) | (with_reducible refine Kd.C_drewN ?_ _) | (with_reducible refine Kd.C_drew ?_))); (case side2 => exact (Kd.R_reads' HO_25.out).2.1); rintro e w68 ⟨rfl, hb⟩; have n0_ := Aside0.mk (Kd.R_below (by (with_reducible repeat (first | apply Kd.R_alloc | apply Kd.R_drewN | apply Kd.R_drew)); exact HO_3.out) hb); have n1_ := Aside0.mk (Kd.R_below (by (with_reducible repeat (first | apply Kd.R_alloc | apply Kd.R_drewN | apply Kd.R_drew)); exact HO_8.out) hb); have n2_ := Aside0.mk (Kd.R_below (by (with_reducible repeat (first | apply Kd.R_alloc | apply Kd.R_drewN | apply Kd.R_drew)); exact HO_10.out) hb); have n3_ := Aside0.mk (Kd.R_below (by (with_reducible repeat (first | apply Kd.R_alloc | apply Kd.R_drewN | apply Kd.R_drew)); exact HO_12.out) hb); have n4_ := Aside0.mk (Kd.R_below (by (with_reducible repeat (first | apply Kd.R_alloc | apply Kd.R_drewN | apply Kd.R_drew)); exact HO_25.out) hb); have n5_ := Aside0.mk (below_step (by repeat (first | (with_reducible first | exact HB.out | apply below_alloc | apply pw_below_drewN | apply below_drew1) | exact HB.out)) hb); clear HO_3; clear HO_8; clear HO_10; clear HO_12; clear HO_25; clear HB; have HO_3 := n0_; have HO_8 := n1_; have HO_10 := n2_; have HO_12 := n3_; have HO_25 := n4_; have HB := n5_; clear n0_ n1_ n2_ n3_ n4_ n5_; (try clear hb); (try clear hb2); (try clear hk); (try clear hi)))
                                                        go_ret
                                                        exact ⟨by first | rfl | (simp [errW_none, errW_some] <;> rfl) | (simp [*, errW_none, errW_some] <;> rfl), by repeat (first | (with_reducible first | exact HB.out | apply below_alloc | apply pw_below_drewN | apply below_drew1) | exact HB.out)⟩
                                                · replace c54 := Bool.eq_false_iff.mpr c54
                                                  subst c54
                                                  have H1 : (laws_FnRegions.l1 kj47 t1161 (Int.tmod (rd t1164 0) 60) (wrap64 ((wrap64 ((Int.tmod (rd t1164 0) 60) + 1)) + (Int.tmod (rd t1164 1) 4))) ((Int.tmod (rd t1164 2) 2) == 0) t1170 t1173 t1174 t1175 t1178 t1179 x20_2 t1195 t1196 x23_33 (wrap64 (x24_4 + 1))) = some r := by rw [if_neg (show ¬ (false = true) by decide)] at H; exact H
                                                  clear H
                                                  have H := H1
                                                  clear H1
                                                  have H' := Aside0.mk H
                                                  clear H
                                                  obtain ⟨Ao69, co69, eo69⟩ := Kd.R_slice HO_25.out
                                                  subst eo69
                                                  go_wp2_with (first | ((with_reducible refine gate_callee (f := 66) rfl ?_); refine goesL_ (some 187) rfl rfl Try.func66 (by kernel_rfl) rfl #[.slice Ao69 x25_47.length co69, .int .i64 x20_2] rfl (by (try simp only [List.map_toArray, List.map_cons, List.map_nil]); first | done | rfl | (simp only [List.length_drop, List.length_take]; rfl)) ?_; (with_reducible refine (impl_Allowed.calls kj47 _ _ x25_47 x20_2 t1197 t1198 _ ?side1 ?side2 A53.out).mono ?_); (case side1 => repeat (first | exact (Kd.R_reads' HO_25.out).2.2 | (with_reducible refine Kd.C_alloc ?_ _) | (with_reducible refine Kd.C_drewN ?_ _) | (with_reducible refine Kd.C_drew ?_))); (case side2 => exact (Kd.R_reads' HO_25.out).2.1); rintro e w70 ⟨rfl, hb⟩; refine ⟨_, rfl, ?_⟩; have n0_ := Aside0.mk (Kd.R_below (by (with_reducible repeat (first | apply Kd.R_alloc | apply Kd.R_drewN | apply Kd.R_drew)); exact HO_3.out) hb); have n1_ := Aside0.mk (Kd.R_below (by (with_reducible repeat (first | apply Kd.R_alloc | apply Kd.R_drewN | apply Kd.R_drew)); exact HO_8.out) hb); have n2_ := Aside0.mk (Kd.R_below (by (with_reducible repeat (first | apply Kd.R_alloc | apply Kd.R_drewN | apply Kd.R_drew)); exact HO_10.out) hb); have n3_ := Aside0.mk (Kd.R_below (by (with_reducible repeat (first | apply Kd.R_alloc | apply Kd.R_drewN | apply Kd.R_drew)); exact HO_12.out) hb); have n4_ := Aside0.mk (Kd.R_below (by (with_reducible repeat (first | apply Kd.R_alloc | apply Kd.R_drewN | apply Kd.R_drew)); exact HO_25.out) hb); have n5_ := Aside0.mk (below_step (by repeat (first | (with_reducible first | exact HB.out | apply below_alloc | apply pw_below_drewN | apply below_drew1) | exact HB.out)) hb); clear HO_3; clear HO_8; clear HO_10; clear HO_12; clear HO_25; clear HB; have HO_3 := n0_; have HO_8 := n1_; have HO_10 := n2_; have HO_12 := n3_; have HO_25 := n4_; have HB := n5_; clear n0_ n1_ n2_ n3_ n4_ n5_; (try clear hb); (try clear hb2); (try clear hk); (try clear hi)))
                                                  go_roundg kj47
                                                  case measure => have := HJ14.out; have := HK2.out; have := HJ33.out; have := HK4.out; have := HJ37.out; have := HJ39.out; have := HJ42.out; have := HJ47.out; omega
                                                  case rel => exact ⟨(wrap64 (x24_4 + 1)), (by first | rfl | (simp; done) | (simp [*]; done)), H', ⟨by have := HJ14.out; have := HK2.out; have := HJ33.out; have := HK4.out; have := HJ37.out; have := HJ39.out; have := HJ42.out; have := HJ47.out; omega⟩, ⟨by (with_reducible repeat (first | apply Kd.R_alloc | apply Kd.R_drewN | apply Kd.R_drew)); exact HO_3.out⟩, ⟨by (with_reducible repeat (first | apply Kd.R_alloc | apply Kd.R_drewN | apply Kd.R_drew)); exact HO_8.out⟩, ⟨by (with_reducible repeat (first | apply Kd.R_alloc | apply Kd.R_drewN | apply Kd.R_drew)); exact HO_10.out⟩, ⟨by (with_reducible repeat (first | apply Kd.R_alloc | apply Kd.R_drewN | apply Kd.R_drew)); exact HO_12.out⟩, ⟨by repeat (first | (with_reducible first | exact HB.out | apply below_alloc | apply pw_below_drewN | apply below_drew1) | exact HB.out)⟩⟩
                              · rw [if_neg c37] at H
                                have c37b0 : decide (x24_4 < 3) = false := decide_eq_false c37
                                clear c37
                                have H' := Aside0.mk H
                                clear H
                                go_wp2
                                go_roundg k4
                                case measure => have := HJ14.out; have := HK2.out; have := HJ33.out; have := HK4.out; omega
                                case rel => exact ⟨(wrap64 (x20_2 + 1)), (by first | rfl | (simp; done) | (simp [*]; done)), H', ⟨by have := HJ14.out; have := HK2.out; have := HJ33.out; have := HK4.out; omega⟩, ⟨by (with_reducible repeat (first | apply Kd.R_alloc | apply Kd.R_drewN | apply Kd.R_drew)); exact HO_3.out⟩, ⟨by (with_reducible repeat (first | apply Kd.R_alloc | apply Kd.R_drewN | apply Kd.R_drew)); exact HO_8.out⟩, ⟨by (with_reducible repeat (first | apply Kd.R_alloc | apply Kd.R_drewN | apply Kd.R_drew)); exact HO_10.out⟩, ⟨by (with_reducible repeat (first | apply Kd.R_alloc | apply Kd.R_drewN | apply Kd.R_drew)); exact HO_12.out⟩, ⟨by repeat (first | (with_reducible first | exact HB.out | apply below_alloc | apply pw_below_drewN | apply below_drew1) | exact HB.out)⟩⟩
                    · rw [if_neg c32] at H
                      have c32b0 : decide (x20_2 < 64) = false := decide_eq_false c32
                      clear c32
                      obtain rfl := Option.some.inj H
                      go_wp2
                      go_ret
                      exact ⟨by first | rfl | (simp [errW_none, errW_some] <;> rfl) | (simp [*, errW_none, errW_some] <;> rfl), by repeat (first | (with_reducible first | exact HB.out | apply below_alloc | apply pw_below_drewN | apply below_drew1) | exact HB.out)⟩
        · rw [if_neg c8] at H
          exact absurd H (by simp)
      · rw [if_neg c7] at H
        exact absurd H (by simp)
    · rw [if_neg c6] at H
      exact absurd H (by simp)

/-- THE ONE PURE STATEMENT of laws_FnRegions: yours. -/
def laws_FnRegions.Pure : Prop := ∀ (l0 : List Int), l0.length ≤ maxLen → l0.length * 1 ≤ 140737488351232 → (∀ x ∈ l0, (Lit.int .u8 x).wf = true) → ∃ k, laws_FnRegions.f k l0 = some true
theorem laws_FnRegions.walk (P : laws_FnRegions.Pure) (a0 : Option Addr) (len0 cap0 : Nat) (z0 : List Int) (w : World) (w0 : (a0 = none ∧ len0 = 0 ∧ cap0 = 0 ∧ z0 = []) ∨ ∃ x, a0 = some x ∧ len0 ≤ cap0 ∧ cap0 ≤ maxLen ∧ z0.length = cap0 ∧ (∀ i, i < z0.length → w.cell? (x.add i) = some (.int .u8 (z0.getD i 0))) ∧ ∀ n ∈ z0, (Lit.int .u8 n).wf = true) (y0 : len0 * 1 ≤ 140737488351232) :
    Calls Try.prog 13 #[.slice a0 len0 cap0] w fun e w' => e = .returned (.bool true) ∧ Below w.heap.size w w' := by
  obtain ⟨l0, rfl, hr0, hm0, hw0, hc0⟩ := ReadsInt.ofRowC w0
  obtain ⟨k, h⟩ := P l0 hm0 y0 hw0
  refine (laws_FnRegions.calls k _ _ l0 true w (Kd.C_of_reads (d := (0 : Int)) (h1 := fun _ => rfl) hr0) hc0 h).mono ?_
  rintro e w' ⟨rfl, hd⟩
  exact ⟨rfl, hd⟩

end Go.Proofs.Ytdpejnckojhgjaa.P
end
section
namespace Go.Proofs.Ytdpejnckojhgjaa.P
open Go.RowKit Go.Proofs.YtdpejnckojhgjaaW.PrintWords Go.Proofs.YtdpejnckojhgjaaW.PrintLast Go.Proofs.YtdpejnckojhgjaaW.PrintMore
attribute [local go_sem] max2_int min2_int max_two min_two max_three min_three max_four min_four   -- for this text's walks alone
set_option linter.unusedVariables false
set_option linter.unusedSimpArgs false

/-! ### laws_szRegionS: function 23 -/
def laws_szRegionS.f (l0 : List (S68)) (a1 : Int) : Option (Int) := if (wrap64 (a1 - (l0.length : Int))) < 0 then (some (-1)) else (some (wrap64 (a1 - (l0.length : Int))))
set_option maxHeartbeats 8000000 in
set_option maxRecDepth 100000 in
theorem laws_szRegionS.calls (A0 : Option Addr) (c0 : Nat) (l0 : List (S68)) (a1 : Int) (r : Int) (w : World) (hr0 : Kd.C k68 w A0 l0.length l0) (hc0 : l0.length ≤ c0) (h : laws_szRegionS.f l0 a1 = some r) :
    Calls Try.prog 23 #[.slice A0 l0.length c0, .int .i64 a1] w fun e w' => e = .returned (.int .i64 r) ∧ Drawn0 w w' := by
  have HR0 := Aside0.mk hr0
  have HC0 := Aside0.mk hc0
  clear hr0 hc0
  have H : (if (wrap64 (a1 - (l0.length : Int))) < 0 then (some (-1)) else (some (wrap64 (a1 - (l0.length : Int))))) = some r := h
  clear h
  by_cases c3 : (wrap64 (a1 - (l0.length : Int))) < 0
  · rw [if_pos c3] at H
    have c3b0 : decide ((wrap64 (a1 - (l0.length : Int))) < 0) = true := decide_eq_true c3
    clear c3
    obtain rfl := Option.some.inj H
    go_enter Try.func23, Try.ntmps23
    go_wp2
    go_ret
    exact ⟨by first | rfl | (simp; done) | (simp [*]; done), by repeat (first | exact Drawn0.refl _ | apply Drawn0.step)⟩
  · rw [if_neg c3] at H
    have c3b0 : decide ((wrap64 (a1 - (l0.length : Int))) < 0) = false := decide_eq_false c3
    clear c3
    obtain rfl := Option.some.inj H
    go_enter Try.func23, Try.ntmps23
    go_wp2
    go_ret
    exact ⟨by first | rfl | (simp; done) | (simp [*]; done), by repeat (first | exact Drawn0.refl _ | apply Drawn0.step)⟩

end Go.Proofs.Ytdpejnckojhgjaa.P
end
section
namespace Go.Proofs.Ytdpejnckojhgjaa.P
open Go.RowKit Go.Proofs.YtdpejnckojhgjaaW.PrintWords Go.Proofs.YtdpejnckojhgjaaW.PrintLast Go.Proofs.YtdpejnckojhgjaaW.PrintMore
attribute [local go_sem] max2_int min2_int max_two min_two max_three min_three max_four min_four   -- for this text's walks alone
set_option linter.unusedVariables false
set_option linter.unusedSimpArgs false

/-! ### laws_toRegion: function 52 -/
def laws_toRegion.f (a0_0 : Int) (a0_1 : Int) (a0_2 : Bool) : Option (Int × Int × Bool) := some (a0_0, a0_1, a0_2)
set_option maxHeartbeats 8000000 in
set_option maxRecDepth 100000 in
theorem laws_toRegion.calls (a0_0 : Int) (a0_1 : Int) (a0_2 : Bool) (r1 : Int) (r2 : Int) (r3 : Bool) (w : World) (h : laws_toRegion.f a0_0 a0_1 a0_2 = some (r1, r2, r3)) :
    Calls Try.prog 52 #[.agg #[.int .i64 a0_0, .int .i64 a0_1, .bool a0_2]] w fun e w' => e = .returned (.agg #[.int .i64 r1, .int .i64 r2, .bool r3]) ∧ Below w.heap.size w w' := by
  have hu68 := Try.underlying68
  have hu70 := Try.underlying70
  have HB := Aside0.mk (Below.refl w.heap.size w)
  have H : (some (a0_0, a0_1, a0_2)) = some (r1, r2, r3) := h
  clear h
  simp only [Option.some.injEq, Prod.mk.injEq] at H
  obtain ⟨rfl, rfl, rfl⟩ := H
  go_enter Try.func52, Try.ntmps52
  go_wp2_with (first | ((with_reducible refine gate_dst (N := 1) rfl ?_); refine box_event ?hg (N := 1) ?hd (cs := #[.int .i64 a0_0, .int .i64 a0_1, .bool a0_2]) (t := 68) ?hr ?_; (case hd => rfl); (case hg => rfl); (case hr => first | (go_simp; done) | (go_simp; rfl)); intro gb249 hg w2 hbox hb; have n0_ := Aside0.mk (below_step (by repeat (first | (with_reducible first | exact HB.out | apply below_alloc | apply pw_below_drewN | apply below_drew1) | exact HB.out)) hb); have n1_ := Aside0.mk (hbox); have n2_ := Aside0.mk ((by rw [hg]; exact (below_size (by repeat (first | (with_reducible first | exact HB.out | apply below_alloc | apply pw_below_drewN | apply below_drew1) | exact HB.out))) : w.heap.size ≤ gb249)); have n3_ := Aside0.mk ((by rw [hg]; exact (below_size (by repeat (first | (with_reducible first | exact HB.out | apply below_alloc | apply pw_below_drewN | apply below_drew1) | exact HB.out))) : w.heap.size ≤ gb249)); clear HB; have HB := n0_; have BK249 := n1_; have GW249 := n2_; have GE249 := n3_; clear n0_ n1_ n2_ n3_; clear hb hbox hg) | ((with_reducible refine gate_dst (N := 2) rfl ?_); refine box_event ?hg (N := 2) ?hd (cs := #[.int .i64 0, .int .i64 0, .bool false]) (t := 70) ?hr ?_; (case hd => rfl); (case hg => rfl); (case hr => first | (go_simp; done) | (go_simp; rfl)); intro gb250 hg w3 hbox hb; have n0_ := Aside0.mk (blk_below (g := gb249) (o := .cells #[.int .i64 a0_0, .int .i64 a0_1, .bool a0_2] 68 (0, 0)) (by (with_reducible repeat (first | refine blk_drewN ?_ _ | refine blk_drew ?_ | refine blk_alloc ?_ _)); exact BK249.out) hb); have n1_ := Aside0.mk (below_step (by repeat (first | (with_reducible first | exact HB.out | apply below_alloc | apply pw_below_drewN | apply below_drew1 | refine below_set ?_ GE249.out) | exact HB.out)) hb); have n2_ := Aside0.mk (hbox); have n3_ := Aside0.mk ((by rw [hg]; exact (below_size (by repeat (first | (with_reducible first | exact HB.out | apply below_alloc | apply pw_below_drewN | apply below_drew1 | refine below_set ?_ GE249.out) | exact HB.out))) : w.heap.size ≤ gb250)); have n4_ := Aside0.mk ((by rw [hg]; exact (below_size (by repeat (first | (with_reducible first | exact HB.out | apply below_alloc | apply pw_below_drewN | apply below_drew1 | refine below_set ?_ GE249.out) | exact HB.out))) : w.heap.size ≤ gb250)); have n5_ := Aside0.mk ((by rw [hg]; exact Nat.ne_of_lt (blk_lt (g := gb249) (o := .cells #[.int .i64 a0_0, .int .i64 a0_1, .bool a0_2] 68 (0, 0)) (by (with_reducible repeat (first | refine blk_drewN ?_ _ | refine blk_drew ?_ | refine blk_alloc ?_ _)); exact BK249.out)) : gb249 ≠ gb250)); have n6_ := Aside0.mk ((by rw [hg]; exact Nat.ne_of_gt (blk_lt (g := gb249) (o := .cells #[.int .i64 a0_0, .int .i64 a0_1, .bool a0_2] 68 (0, 0)) (by (with_reducible repeat (first | refine blk_drewN ?_ _ | refine blk_drew ?_ | refine blk_alloc ?_ _)); exact BK249.out)) : gb250 ≠ gb249)); clear BK249; clear HB; have BK249 := n0_; have HB := n1_; have BK250 := n2_; have GW250 := n3_; have GE250 := n4_; have NB249_250 := n5_; have NB250_249 := n6_; clear n0_ n1_ n2_ n3_ n4_ n5_ n6_; clear hb hbox hg) | ((with_reducible refine gate_dst (N := 3) rfl ?_); refine box_event ?hg (N := 3) ?hd (cs := #[.int .i64 0, .int .i64 0, .bool false]) (t := 70) ?hr ?_; (case hd => rfl); (case hg => rfl); (case hr => first | (go_simp; done) | (go_simp; rfl)); intro gb251 hg w4 hbox hb; have n0_ := Aside0.mk (blk_below (g := gb249) (o := .cells #[.int .i64 a0_0, .int .i64 a0_1, .bool a0_2] 68 (0, 0)) (by (with_reducible repeat (first | refine blk_drewN ?_ _ | refine blk_drew ?_ | refine blk_alloc ?_ _)); exact BK249.out) hb); have n1_ := Aside0.mk (blk_below (g := gb250) (o := .cells #[.int .i64 0, .int .i64 0, .bool false] 70 (0, 0)) (by (with_reducible repeat (first | refine blk_drewN ?_ _ | refine blk_drew ?_ | refine blk_alloc ?_ _)); exact BK250.out) hb); have n2_ := Aside0.mk (below_step (by repeat (first | (with_reducible first | exact HB.out | apply below_alloc | apply pw_below_drewN | apply below_drew1 | refine below_set ?_ GE249.out | refine below_set ?_ GE250.out) | exact HB.out)) hb); have n3_ := Aside0.mk (hbox); have n4_ := Aside0.mk ((by rw [hg]; exact (below_size (by repeat (first | (with_reducible first | exact HB.out | apply below_alloc | apply pw_below_drewN | apply below_drew1 | refine below_set ?_ GE249.out | refine below_set ?_ GE250.out) | exact HB.out))) : w.heap.size ≤ gb251)); have n5_ := Aside0.mk ((by rw [hg]; exact (below_size (by repeat (first | (with_reducible first | exact HB.out | apply below_alloc | apply pw_below_drewN | apply below_drew1 | refine below_set ?_ GE249.out | refine below_set ?_ GE250.out) | exact HB.out))) : w.heap.size ≤ gb251)); have n6_ := Aside0.mk ((by rw [hg]; exact Nat.ne_of_lt (blk_lt (g := gb249) (o := .cells #[.int .i64 a0_0, .int .i64 a0_1, .bool a0_2] 68 (0, 0)) (by (with_reducible repeat (first | refine blk_drewN ?_ _ | refine blk_drew ?_ | refine blk_alloc ?_ _)); exact BK249.out)) : gb249 ≠ gb251)); have n7_ := Aside0.mk ((by rw [hg]; exact Nat.ne_of_gt (blk_lt (g := gb249) (o := .cells #[.int .i64 a0_0, .int .i64 a0_1, .bool a0_2] 68 (0, 0)) (by (with_reducible repeat (first | refine blk_drewN ?_ _ | refine blk_drew ?_ | refine blk_alloc ?_ _)); exact BK249.out)) : gb251 ≠ gb249)); have n8_ := Aside0.mk ((by rw [hg]; exact Nat.ne_of_lt (blk_lt (g := gb250) (o := .cells #[.int .i64 0, .int .i64 0, .bool false] 70 (0, 0)) (by (with_reducible repeat (first | refine blk_drewN ?_ _ | refine blk_drew ?_ | refine blk_alloc ?_ _)); exact BK250.out)) : gb250 ≠ gb251)); have n9_ := Aside0.mk ((by rw [hg]; exact Nat.ne_of_gt (blk_lt (g := gb250) (o := .cells #[.int .i64 0, .int .i64 0, .bool false] 70 (0, 0)) (by (with_reducible repeat (first | refine blk_drewN ?_ _ | refine blk_drew ?_ | refine blk_alloc ?_ _)); exact BK250.out)) : gb251 ≠ gb250)); clear BK249; clear BK250; clear HB; have BK249 := n0_; have BK250 := n1_; have HB := n2_; have BK251 := n3_; have GW251 := n4_; have GE251 := n5_; have NB249_251 := n6_; have NB251_249 := n7_; have NB250_251 := n8_; have NB251_250 := n9_; clear n0_ n1_ n2_ n3_ n4_ n5_ n6_ n7_ n8_ n9_; clear hb hbox hg; have hnb5 := NB249_250.out; have hnc5 := NB250_249.out; have hnb6 := NB249_251.out; have hnc6 := NB251_249.out; have hcz7_0 : w4.cell? ⟨gb249, 0, none⟩ = some (.int .i64 a0_0) := (blk_cell BK249.out 0).trans rfl; have hcz7_1 : w4.cell? ⟨gb249, 1, none⟩ = some (.int .i64 a0_1) := (blk_cell BK249.out 1).trans rfl; have hcz7_2 : w4.cell? ⟨gb249, 2, none⟩ = some (.bool a0_2) := (blk_cell BK249.out 2).trans rfl; have hfz7_0 := blk_frozen BK249.out 0; have hfz7_1 := blk_frozen BK249.out 1; have hfz7_2 := blk_frozen BK249.out 2; have hnb8 := NB251_250.out; have hnc8 := NB250_251.out; have hcz9_0 : w4.cell? ⟨gb251, 0, none⟩ = some (.int .i64 0) := (blk_cell BK251.out 0).trans rfl; have hcz9_1 : w4.cell? ⟨gb251, 1, none⟩ = some (.int .i64 0) := (blk_cell BK251.out 1).trans rfl; have hcz9_2 : w4.cell? ⟨gb251, 2, none⟩ = some (.bool false) := (blk_cell BK251.out 2).trans rfl; have hfz9_0 := blk_frozen BK251.out 0; have hfz9_1 := blk_frozen BK251.out 1; have hfz9_2 := blk_frozen BK251.out 2; have hcz10_0 : w4.cell? ⟨gb250, 0, none⟩ = some (.int .i64 0) := (blk_cell BK250.out 0).trans rfl; have hcz10_1 : w4.cell? ⟨gb250, 1, none⟩ = some (.int .i64 0) := (blk_cell BK250.out 1).trans rfl; have hcz10_2 : w4.cell? ⟨gb250, 2, none⟩ = some (.bool false) := (blk_cell BK250.out 2).trans rfl; have hfz10_0 := blk_frozen BK250.out 0; have hfz10_1 := blk_frozen BK250.out 1; have hfz10_2 := blk_frozen BK250.out 2))
  refine bodyPost_ret (results_cell_row rfl _ _ gb250 70 #[.int .i64 a0_0, .int .i64 a0_1, .bool a0_2] (0, 0) _ rfl (by (with_reducible repeat (first | refine blk_drewN ?_ _ | refine blk_drew ?_ | refine blk_alloc ?_ _)); refine blk_put (cs := #[.int .i64 a0_0, .int .i64 a0_1, .bool false]) ?_ 2 _ rfl; (with_reducible repeat (first | refine blk_drewN ?_ _ | refine blk_drew ?_ | refine blk_alloc ?_ _)); refine blk_put (cs := #[.int .i64 a0_0, .int .i64 0, .bool false]) ?_ 1 _ rfl; (with_reducible repeat (first | refine blk_drewN ?_ _ | refine blk_drew ?_ | refine blk_alloc ?_ _)); refine blk_put (cs := #[.int .i64 0, .int .i64 0, .bool false]) ?_ 0 _ rfl; (with_reducible repeat (first | refine blk_drewN ?_ _ | refine blk_drew ?_ | refine blk_alloc ?_ _)); refine blk_far ?_ NB250_251.out _; (with_reducible repeat (first | refine blk_drewN ?_ _ | refine blk_drew ?_ | refine blk_alloc ?_ _)); refine blk_far ?_ NB250_251.out _; (with_reducible repeat (first | refine blk_drewN ?_ _ | refine blk_drew ?_ | refine blk_alloc ?_ _)); refine blk_far ?_ NB250_251.out _; (with_reducible repeat (first | refine blk_drewN ?_ _ | refine blk_drew ?_ | refine blk_alloc ?_ _)); exact BK250.out) Try.underlying70 rfl (by kernel_rfl)) rfl ?_
  exact ⟨by first | rfl | (simp [errW_none, errW_some] <;> rfl) | (simp [*, errW_none, errW_some] <;> rfl), by repeat (first | (with_reducible first | exact HB.out | apply below_alloc | apply pw_below_drewN | apply below_drew1 | refine below_set ?_ GE249.out | refine below_set ?_ GE250.out | refine below_set ?_ GE251.out) | exact HB.out)⟩

end Go.Proofs.Ytdpejnckojhgjaa.P
end
section
namespace Go.Proofs.Ytdpejnckojhgjaa.P
open Go.RowKit Go.Proofs.YtdpejnckojhgjaaW.PrintWords Go.Proofs.YtdpejnckojhgjaaW.PrintLast Go.Proofs.YtdpejnckojhgjaaW.PrintMore
attribute [local go_sem] max2_int min2_int max_two min_two max_three min_three max_four min_four   -- for this text's walks alone
set_option linter.unusedVariables false
set_option linter.unusedSimpArgs false

/-! ### laws_toRegionS: function 25 -/
def laws_toRegionS.l0 : Nat → List (S68) → List (S70) → Int → Option ((List (S70)))
  | 0, _, _, _ => none
  | k + 1, x0, x3, x4 => if x4 < (x0.length : Int) then (if 0 ≤ x4 then ((laws_toRegion.f ((rd_T68 x0 x4).f0) ((rd_T68 x0 x4).f1) ((rd_T68 x0 x4).f2)).bind fun bt256 => (if x4 < (x3.length : Int) then (laws_toRegionS.l0 k x0 (x3.set (x4 : Int).toNat (⟨bt256.1, bt256.2.1, bt256.2.2⟩ : S70)) (wrap64 (x4 + 1))) else (none))) else (none)) else (some x3)
def laws_toRegionS.f (k : Nat) (l0 : List (S68)) : Option ((List (S70))) := if 0 ≤ (l0.length : Int) then (if ((l0.length : Int) : Int).toNat ≤ 11728124029610 then (laws_toRegionS.l0 k l0 (List.replicate ((l0.length : Int) : Int).toNat z70) 0) else (none)) else (none)
theorem laws_toRegionS.mono_l : ∀ k, (∀ y0 y1 y2, LeO (laws_toRegionS.l0 k y0 y1 y2) (laws_toRegionS.l0 (k + 1) y0 y1 y2))
  | 0 => fun _ _ _ r h => by simp [laws_toRegionS.l0] at h
  | k + 1 => by
    have ih0 := laws_toRegionS.mono_l k
    · intro y0 y1 y2
      unfold laws_toRegionS.l0
      repeat' first
      | (with_reducible exact ih0 _ _ _)
      | (with_reducible exact LeO.refl _)
      | (with_reducible exact LeO.none _)
      | (with_reducible refine LeO.ite ?_ ?_)
      | (with_reducible refine LeO.bind ?_ (fun _ => ?_))
      | exact ih0 _ _ _
      | exact LeO.none _
      | refine LeO.ite ?_ ?_
      | refine LeO.bind ?_ (fun _ => ?_)
theorem laws_toRegionS.mono : ∀ a0 k, LeO (laws_toRegionS.f k a0) (laws_toRegionS.f (k + 1) a0) := by
  intro a0 k
  have ih0 := laws_toRegionS.mono_l k
  unfold laws_toRegionS.f
  repeat' first
      | (with_reducible exact ih0 _ _ _)
      | (with_reducible exact LeO.refl _)
      | (with_reducible exact LeO.none _)
      | (with_reducible refine LeO.ite ?_ ?_)
      | (with_reducible refine LeO.bind ?_ (fun _ => ?_))
      | exact ih0 _ _ _
      | exact LeO.none _
      | refine LeO.ite ?_ ?_
      | refine LeO.bind ?_ (fun _ => ?_)
set_option maxHeartbeats 8000000 in
set_option maxRecDepth 100000 in
theorem laws_toRegionS.calls (k : Nat) (A0 : Option Addr) (c0 : Nat) (l0 : List (S68)) (r : List (S70)) (w : World) (hr0 : Kd.C k68 w A0 l0.length l0) (hc0 : l0.length ≤ c0) (h : laws_toRegionS.f k l0 = some r) :
    Calls Try.prog 25 #[.slice A0 l0.length c0] w fun e w' => ∃ v0_ : Value, e = .returned (v0_) ∧ Kd.R k70 70 w' w.heap.size (fun _ => True) v0_ r ∧ Below w.heap.size w w' := by
  have hu68 := Try.underlying68
  have hu70 := Try.underlying70
  have HR0 := Aside0.mk hr0
  have HC0 := Aside0.mk hc0
  clear hr0 hc0
  have HB := Aside0.mk (Below.refl w.heap.size w)
  have H : (if 0 ≤ (l0.length : Int) then (if ((l0.length : Int) : Int).toNat ≤ 11728124029610 then (laws_toRegionS.l0 k l0 (List.replicate ((l0.length : Int) : Int).toNat z70) 0) else (none)) else (none)) = some r := h
  clear h
  by_cases c2 : 0 ≤ (l0.length : Int)
  · rw [if_pos c2] at H
    have c2b0 := eq_true c2
    have c2b1 : decide (0 ≤ (l0.length : Int)) = true := decide_eq_true c2
    clear c2
    by_cases c3 : ((l0.length : Int) : Int).toNat ≤ 11728124029610
    · rw [if_pos c3] at H
      have c3b0 := eq_true c3
      have c3b1 : decide (((l0.length : Int) : Int).toNat ≤ 11728124029610) = true := decide_eq_true c3
      clear c3
      obtain ⟨y252, hy252⟩ : ∃ y_ : List (S70), y_ = (List.replicate ((l0.length : Int) : Int).toNat z70) := ⟨_, rfl⟩
      replace H : (laws_toRegionS.l0 k l0 y252 0) = some r := by first | (rw [hy252]; with_reducible exact H) | (have H2_ := (Option.bind_some _ _).symm.trans H; rw [hy252]; with_reducible exact H2_) | (have H2_ := (Option.bind_some _ _).symm.trans H; with_reducible exact H2_) | with_reducible exact H | (rw [hy252]; exact H) | exact H
      have Ny252 := Aside0.mk hy252
      clear hy252
      have H' := Aside0.mk H
      clear H
      go_enter Try.func25, Try.ntmps25
      go_wp2_with (first | ((with_reducible refine gate_dst (N := 7) rfl ?_); refine Kd.R_make k70 _ 70 rfl (N := 7) rfl 34 _ _ rfl (l0.length : Int) rfl rfl Try.underlying34 (.agg #[(.int .i64 0), (.int .i64 0), (.bool false)]) 24 info70 rfl (by decide) (by omega) z70 (ok := fun _ => True) (okp := fun _ => True) (k70_mkM _ _ _ z70 ) (fun _ hk => hk) trivial (of_decide_eq_true (by first | (with_reducible assumption) | assumption)) (Nat.le_trans (Nat.mul_le_mul_right _ (of_decide_eq_true (by first | (with_reducible assumption) | assumption) : (l0.length : Int).toNat ≤ 11728124029610)) (by omega)) (Below.refl _ _) (Nat.le_refl _) ?_; intro v253 w4 ho5 hb hg_ hnew_; clear hg_ hnew_; (first | rw [← Ny252.out] at ho5 | (simp only [Int.reduceToNat] at ho5; rw [← Ny252.out] at ho5)); have n0_ := Aside0.mk (Kd.R_lower ho5 (below_size (by repeat (first | (with_reducible first | exact HB.out | apply below_alloc | apply pw_below_drewN | apply below_drew1) | exact HB.out)))); have n1_ := Aside0.mk (below_step (by repeat (first | (with_reducible first | exact HB.out | apply below_alloc | apply pw_below_drewN | apply below_drew1) | exact HB.out)) hb); clear HB; have HO254 := n0_; have HB := n1_; clear n0_ n1_; clear hb ho5))
      go_loopg [4] k (fun kq v4 w' => ∃ (x3_1 : List (S70)) (x4_1 : Int), v4 = .int .i64 x4_1 ∧ Aside0 (laws_toRegionS.l0 kq l0 x3_1 x4_1 = some r) ∧ Aside0 (kq ≤ k) ∧ Aside0 (Kd.R k70 70 w' w.heap.size (fun _ => True) v253 x3_1) ∧ Aside0 (Below w.heap.size w w'))
      case atStart => exact ⟨(y252), (0), (by first | rfl | (simp; done) | (simp [*]; done)), H', ⟨Nat.le_refl _⟩, ⟨by (with_reducible repeat (first | apply Kd.R_alloc | apply Kd.R_drewN | apply Kd.R_drew)); exact HO254.out⟩, ⟨by repeat (first | (with_reducible first | exact HB.out | apply below_alloc | apply pw_below_drewN | apply below_drew1) | exact HB.out)⟩⟩
      case round =>
        clear H'
        try clear c2
        try clear c2b0
        try clear c2b1
        try clear p2
        try clear c3
        try clear c3b0
        try clear c3b1
        obtain ⟨x3_1, x4_1, rfl, HA, HK1, HO_3, HB⟩ := hrel
        cases gk with
        | zero => exact absurd HA.out (by simp [laws_toRegionS.l0])
        | succ k1 =>
          have H := HA.out
          clear HA
          simp only [laws_toRegionS.l0] at H
          by_cases c6 : x4_1 < (l0.length : Int)
          · rw [if_pos c6] at H
            have c6b0 : decide (x4_1 < (l0.length : Int)) = true := decide_eq_true c6
            clear c6
            by_cases c7 : 0 ≤ x4_1
            · rw [if_pos c7] at H
              have c7b0 : decide (0 ≤ x4_1) = true := decide_eq_true c7
              clear c7
              replace H := Option.bind_eq_some_iff.mp H
              obtain ⟨⟨t256, t257, t258⟩, A80, H⟩ := H
              replace H : (if x4_1 < (x3_1.length : Int) then (laws_toRegionS.l0 k1 l0 (x3_1.set (x4_1 : Int).toNat (⟨t256, t257, t258⟩ : S70)) (wrap64 (x4_1 + 1))) else (none)) = some r := H
              have A8 := Aside0.mk A80
              clear A80
              by_cases c9 : x4_1 < (x3_1.length : Int)
              · rw [if_pos c9] at H
                have c9b0 : decide (x4_1 < (x3_1.length : Int)) = true := decide_eq_true c9
                clear c9
                obtain ⟨y259, hy259⟩ : ∃ y_ : List (S70), y_ = (x3_1.set (x4_1 : Int).toNat (⟨t256, t257, t258⟩ : S70)) := ⟨_, rfl⟩
                replace H : (laws_toRegionS.l0 k1 l0 y259 (wrap64 (x4_1 + 1))) = some r := by first | (rw [hy259]; with_reducible exact H) | (have H2_ := (Option.bind_some _ _).symm.trans H; rw [hy259]; with_reducible exact H2_) | (have H2_ := (Option.bind_some _ _).symm.trans H; with_reducible exact H2_) | with_reducible exact H | (rw [hy259]; exact H) | exact H
                have Ny259 := Aside0.mk hy259
                clear hy259
                have H' := Aside0.mk H
                clear H
                have p255 : 0 ≤ (x4_1 : Int) := of_decide_eq_true (by first | (with_reducible assumption) | assumption)
                have q255 : x4_1 < (l0.length : Int) := of_decide_eq_true (by first | (with_reducible assumption) | assumption)
                obtain ⟨ad255, e255, hx255_0, hx255_1, hx255_2⟩ := at_T68 HR0.out x4_1 p255 q255
                cases e255
                replace hx255_0 := (HB.out.cell (World.block_lt_of_cell? w _ hx255_0)).trans hx255_0
                replace hx255_1 := (HB.out.cell (World.block_lt_of_cell? w _ hx255_1)).trans hx255_1
                replace hx255_2 := (HB.out.cell (World.block_lt_of_cell? w _ hx255_2)).trans hx255_2
                replace p255 := eq_true p255
                replace q255 := eq_true q255
                go_wp2_with (first | ((with_reducible refine gate_callee (f := 52) rfl ?_); refine goesL_ (some 20) rfl rfl Try.func52 (by kernel_rfl) rfl #[.agg #[.int .i64 ((rd_T68 l0 x4_1).f0), .int .i64 ((rd_T68 l0 x4_1).f1), .bool ((rd_T68 l0 x4_1).f2)]] rfl (by (try simp only [List.map_toArray, List.map_cons, List.map_nil]); first | done | rfl | (simp only [List.length_drop, List.length_take]; rfl)) ?_; (with_reducible refine (laws_toRegion.calls ((rd_T68 l0 x4_1).f0) ((rd_T68 l0 x4_1).f1) ((rd_T68 l0 x4_1).f2) t256 t257 t258 _ A8.out).mono ?_); rintro e w11 ⟨rfl, hb⟩; refine ⟨_, rfl, ?_⟩; have n0_ := Aside0.mk (Kd.R_below (by (with_reducible repeat (first | apply Kd.R_alloc | apply Kd.R_drewN | apply Kd.R_drew)); exact HO_3.out) hb); have n1_ := Aside0.mk (below_step (by repeat (first | (with_reducible first | exact HB.out | apply below_alloc | apply pw_below_drewN | apply below_drew1) | exact HB.out)) hb); clear HO_3; clear HB; have HO_3 := n0_; have HB := n1_; clear n0_ n1_; (try clear hb); (try clear hb2); (try clear hk); (try clear hi); have p10 : 0 ≤ (x4_1 : Int) := of_decide_eq_true (by first | (with_reducible assumption) | assumption); have q10 : (x4_1 : Int) < ((x3_1.length : Int) : Int) := of_decide_eq_true (by first | (with_reducible assumption) | assumption); obtain ⟨go10, co10, eo10, gb10, gl10, cl10, HG10⟩ := Kd.R_form HO_3.out (by omega); (first | cases eo10 | (injection eo10 with ea_ en_ ec_; (first | subst ea_ | (injection ea_ with ea_; subst ea_)); subst ec_; clear en_)); have GB10 := Aside0.mk gb10; have GG10 := Aside0.mk HG10; clear gb10 gl10 HG10; obtain ⟨ce10, hcl10, hM10, hcc10, hfr10⟩ := Kd.R_elem HO_3.out z70 (x4_1 : Int) p10 q10; obtain rfl := k70_openM hM10; have hx10_0 : w11.cell? ⟨go10, (x4_1 : Int).toNat * 3, none⟩ = some (.int .i64 ((rd_T70 x3_1 x4_1).f0)) := hcc10 0 _ rfl; have hx10_1 : w11.cell? ⟨go10, (x4_1 : Int).toNat * 3 + 1, none⟩ = some (.int .i64 ((rd_T70 x3_1 x4_1).f1)) := hcc10 1 _ rfl; have hx10_2 : w11.cell? ⟨go10, (x4_1 : Int).toNat * 3 + 2, none⟩ = some (.bool ((rd_T70 x3_1 x4_1).f2)) := hcc10 2 _ rfl; have hf10_0 : w11.frozen? ⟨go10, (x4_1 : Int).toNat * 3, none⟩ = false := hfr10 0; have hf10_1 : w11.frozen? ⟨go10, (x4_1 : Int).toNat * 3 + 1, none⟩ = false := hfr10 1; have hf10_2 : w11.frozen? ⟨go10, (x4_1 : Int).toNat * 3 + 2, none⟩ = false := hfr10 2; (try clear hcl10); (try clear hcc10); (try clear hfr10); (try clear hM10); replace p10 := eq_true p10; replace q10 := eq_true q10; have HX12 := Aside0.mk (show Kd.R k70 70 w11 w.heap.size (fun _ => True) (.slice (some ⟨go10, 0, none⟩) x3_1.length co10) x3_1 from (by (with_reducible repeat (first | apply Kd.R_alloc | apply Kd.R_drewN | apply Kd.R_drew)); exact HO_3.out)); obtain ⟨ce12, hcl12, hM12, hcc12, hfr12⟩ := Kd.R_elem HX12.out z70 (x4_1 : Int) (of_decide_eq_true (by first | (with_reducible assumption) | assumption)) (by have h_ : (x4_1 : Int) < ((x3_1.length : Int) : Int) := of_decide_eq_true (by first | (with_reducible assumption) | assumption); first | exact h_ | (have e_ := (Kd.R_reads' HO_3.out).1; omega) | simpa using h_); obtain rfl := k70_openM hM12; have HP12 := Kd.R_seg HX12.out (x4_1 : Int) (of_decide_eq_true (by first | (with_reducible assumption) | assumption)) (by have h_ : (x4_1 : Int) < ((x3_1.length : Int) : Int) := of_decide_eq_true (by first | (with_reducible assumption) | assumption); first | exact h_ | (have e_ := (Kd.R_reads' HO_3.out).1; omega) | simpa using h_) (seg := [.int .i64 t256, .int .i64 t257, .bool t258]) (j := 0) hcl12 hcc12 (show 3 ≤ 3 from by decide) (x' := (⟨t256, t257, t258⟩ : S70)) (k70_mkM _ _ _ (⟨t256, t257, t258⟩ : S70) ) (fun _ hk => hk); have hx12_0 := hcc12 0 _ rfl; (try simp only [show (k70).sz = 3 from rfl, Nat.mul_one, Nat.add_zero] at hx12_0); have hf12_0 := hfr12 0; (try simp only [show (k70).sz = 3 from rfl, Nat.mul_one, Nat.add_zero] at hf12_0); have hx12_1 := hcc12 1 _ rfl; (try simp only [show (k70).sz = 3 from rfl, Nat.mul_one, Nat.add_zero] at hx12_1); have hf12_1 := hfr12 1; (try simp only [show (k70).sz = 3 from rfl, Nat.mul_one, Nat.add_zero] at hf12_1); have hx12_2 := hcc12 2 _ rfl; (try simp only [show (k70).sz = 3 from rfl, Nat.mul_one, Nat.add_zero] at hx12_2); have hf12_2 := hfr12 2; (try simp only [show (k70).sz = 3 from rfl, Nat.mul_one, Nat.add_zero] at hf12_2); (try clear hcl12); (try clear hcc12); (try clear hfr12); (try clear hM12)) | ((with_reducible refine gate_store (t := 70) (p := 21) rfl ?_); refine store_event (t := 70) (p := 21) (v := ?vo_w13) (w1 := (((w11.setCell ⟨go10, (x4_1 : Int).toNat * 3, none⟩ (.int .i64 t256)).setCell ⟨go10, (x4_1 : Int).toNat * 3 + 1, none⟩ (.int .i64 t257)).setCell ⟨go10, (x4_1 : Int).toNat * 3 + 2, none⟩ (.bool t258))) ?hg ?ho ?hn ?hr ?_; (case ho => rfl); (case hg => rfl); (case hn => rfl); (case hr => first | (go_simp; done) | (go_simp; rfl)); intro w13 hw; have hg : w11.grownBy w13 (some go10) := (by rw [hw]; exact HP12.2); have hp_ : Kd.R k70 70 w13 w.heap.size (fun _ => True) (.slice (some ⟨go10, 0, none⟩) x3_1.length co10) y259 := (by rw [hw, Ny259.out]; exact HP12.1); clear HP12; have n0_ := Aside0.mk (hp_); have n1_ := Aside0.mk ((by rw [hw]; exact below_set (below_set (below_set (HB.out) GB10.out) GB10.out) GB10.out : Below w.heap.size w w13)); clear HO_3; clear HB; have HO_3 := n0_; have HB := n1_; clear n0_ n1_; clear hg hw hp_))
                go_roundg k1
                case measure => have := HK1.out; omega
                case rel => exact ⟨(y259), (wrap64 (x4_1 + 1)), (by first | rfl | (simp; done) | (simp [*]; done)), H', ⟨by have := HK1.out; omega⟩, ⟨by (with_reducible repeat (first | apply Kd.R_alloc | apply Kd.R_drewN | apply Kd.R_drew)); exact HO_3.out⟩, ⟨by repeat (first | (with_reducible first | exact HB.out | apply below_alloc | apply pw_below_drewN | apply below_drew1) | exact HB.out)⟩⟩
              · rw [if_neg c9] at H
                exact absurd H (by simp)
            · rw [if_neg c7] at H
              exact absurd H (by simp)
          · rw [if_neg c6] at H
            have c6b0 : decide (x4_1 < (l0.length : Int)) = false := decide_eq_false c6
            clear c6
            obtain rfl := Option.some.inj H
            go_wp2
            go_ret
            exact ⟨_, by first | rfl | (simp [errW_none, errW_some] <;> rfl) | (simp [*, errW_none, errW_some] <;> rfl), by (with_reducible repeat (first | apply Kd.R_alloc | apply Kd.R_drewN | apply Kd.R_drew)); exact HO_3.out, by repeat (first | (with_reducible first | exact HB.out | apply below_alloc | apply pw_below_drewN | apply below_drew1) | exact HB.out)⟩
    · rw [if_neg c3] at H
      exact absurd H (by simp)
  · rw [if_neg c2] at H
    exact absurd H (by simp)

end Go.Proofs.Ytdpejnckojhgjaa.P
end
section
namespace Go.Proofs.Ytdpejnckojhgjaa.P
open Go.RowKit Go.Proofs.YtdpejnckojhgjaaW.PrintWords Go.Proofs.YtdpejnckojhgjaaW.PrintLast Go.Proofs.YtdpejnckojhgjaaW.PrintMore
attribute [local go_sem] max2_int min2_int max_two min_two max_three min_three max_four min_four   -- for this text's walks alone
set_option linter.unusedVariables false
set_option linter.unusedSimpArgs false

/-! ### laws_eqRegion: function 85 -/
def laws_eqRegion.f (a0_0 : Int) (a0_1 : Int) (a0_2 : Bool) (a1_0 : Int) (a1_1 : Int) (a1_2 : Bool) : Option (Bool) := if a0_0 = a1_0 then (if a0_1 = a1_1 then (if (a0_2 != a1_2) = true then (some false) else (some true)) else (some false)) else (some false)
set_option maxHeartbeats 8000000 in
set_option maxRecDepth 100000 in
theorem laws_eqRegion.calls (a0_0 : Int) (a0_1 : Int) (a0_2 : Bool) (a1_0 : Int) (a1_1 : Int) (a1_2 : Bool) (r : Bool) (w : World) (h : laws_eqRegion.f a0_0 a0_1 a0_2 a1_0 a1_1 a1_2 = some r) :
    Calls Try.prog 85 #[.agg #[.int .i64 a0_0, .int .i64 a0_1, .bool a0_2], .agg #[.int .i64 a1_0, .int .i64 a1_1, .bool a1_2]] w fun e w' => e = .returned (.bool r) ∧ Below w.heap.size w w' := by
  have hu70 := Try.underlying70
  have HB := Aside0.mk (Below.refl w.heap.size w)
  have H : (if a0_0 = a1_0 then (if a0_1 = a1_1 then (if (a0_2 != a1_2) = true then (some false) else (some true)) else (some false)) else (some false)) = some r := h
  clear h
  by_cases c3 : a0_0 = a1_0
  · rw [if_pos c3] at H
    have c3b0 : (a0_0 == a1_0) = true := beq_iff_eq.mpr c3
    have c3b1 : (a0_0 != a1_0) = false := bne_eq_false_iff_eq.mpr c3
    clear c3
    by_cases c4 : a0_1 = a1_1
    · rw [if_pos c4] at H
      have c4b0 : (a0_1 == a1_1) = true := beq_iff_eq.mpr c4
      have c4b1 : (a0_1 != a1_1) = false := bne_eq_false_iff_eq.mpr c4
      clear c4
      by_cases c5 : (a0_2 != a1_2) = true
      · rw [if_pos c5] at H
        have c5b0 : (a0_2 != a1_2) = true := c5
        (try (have c5b1 : decide (a0_2 = a1_2) = false := by simpa using c5))
        (try (have c5b2 : (a0_2 == a1_2) = false := by simpa using c5))
        (try (have c5b3 : ¬ (a0_2 = a1_2) := by simpa using c5))
        clear c5
        obtain rfl := Option.some.inj H
        go_enter Try.func85, Try.ntmps85
        go_wp2_with (first | ((with_reducible refine gate_dst (N := 2) rfl ?_); refine box_event ?hg (N := 2) ?hd (cs := #[.int .i64 a0_0, .int .i64 a0_1, .bool a0_2]) (t := 70) ?hr ?_; (case hd => rfl); (case hg => rfl); (case hr => first | (go_simp; done) | (go_simp; rfl)); intro gb268 hg w6 hbox hb; have n0_ := Aside0.mk (below_step (by repeat (first | (with_reducible first | exact HB.out | apply below_alloc | apply pw_below_drewN | apply below_drew1) | exact HB.out)) hb); have n1_ := Aside0.mk (hbox); have n2_ := Aside0.mk ((by rw [hg]; exact (below_size (by repeat (first | (with_reducible first | exact HB.out | apply below_alloc | apply pw_below_drewN | apply below_drew1) | exact HB.out))) : w.heap.size ≤ gb268)); have n3_ := Aside0.mk ((by rw [hg]; exact (below_size (by repeat (first | (with_reducible first | exact HB.out | apply below_alloc | apply pw_below_drewN | apply below_drew1) | exact HB.out))) : w.heap.size ≤ gb268)); clear HB; have HB := n0_; have BK268 := n1_; have GW268 := n2_; have GE268 := n3_; clear n0_ n1_ n2_ n3_; clear hb hbox hg) | ((with_reducible refine gate_dst (N := 3) rfl ?_); refine box_event ?hg (N := 3) ?hd (cs := #[.int .i64 a1_0, .int .i64 a1_1, .bool a1_2]) (t := 70) ?hr ?_; (case hd => rfl); (case hg => rfl); (case hr => first | (go_simp; done) | (go_simp; rfl)); intro gb269 hg w7 hbox hb; have n0_ := Aside0.mk (blk_below (g := gb268) (o := .cells #[.int .i64 a0_0, .int .i64 a0_1, .bool a0_2] 70 (0, 0)) (by (with_reducible repeat (first | refine blk_drewN ?_ _ | refine blk_drew ?_ | refine blk_alloc ?_ _)); exact BK268.out) hb); have n1_ := Aside0.mk (below_step (by repeat (first | (with_reducible first | exact HB.out | apply below_alloc | apply pw_below_drewN | apply below_drew1 | refine below_set ?_ GE268.out) | exact HB.out)) hb); have n2_ := Aside0.mk (hbox); have n3_ := Aside0.mk ((by rw [hg]; exact (below_size (by repeat (first | (with_reducible first | exact HB.out | apply below_alloc | apply pw_below_drewN | apply below_drew1 | refine below_set ?_ GE268.out) | exact HB.out))) : w.heap.size ≤ gb269)); have n4_ := Aside0.mk ((by rw [hg]; exact (below_size (by repeat (first | (with_reducible first | exact HB.out | apply below_alloc | apply pw_below_drewN | apply below_drew1 | refine below_set ?_ GE268.out) | exact HB.out))) : w.heap.size ≤ gb269)); have n5_ := Aside0.mk ((by rw [hg]; exact Nat.ne_of_lt (blk_lt (g := gb268) (o := .cells #[.int .i64 a0_0, .int .i64 a0_1, .bool a0_2] 70 (0, 0)) (by (with_reducible repeat (first | refine blk_drewN ?_ _ | refine blk_drew ?_ | refine blk_alloc ?_ _)); exact BK268.out)) : gb268 ≠ gb269)); have n6_ := Aside0.mk ((by rw [hg]; exact Nat.ne_of_gt (blk_lt (g := gb268) (o := .cells #[.int .i64 a0_0, .int .i64 a0_1, .bool a0_2] 70 (0, 0)) (by (with_reducible repeat (first | refine blk_drewN ?_ _ | refine blk_drew ?_ | refine blk_alloc ?_ _)); exact BK268.out)) : gb269 ≠ gb268)); clear BK268; clear HB; have BK268 := n0_; have HB := n1_; have BK269 := n2_; have GW269 := n3_; have GE269 := n4_; have NB268_269 := n5_; have NB269_268 := n6_; clear n0_ n1_ n2_ n3_ n4_ n5_ n6_; clear hb hbox hg; have hnb8 := NB268_269.out; have hnc8 := NB269_268.out; have hcz9_0 : w7.cell? ⟨gb268, 0, none⟩ = some (.int .i64 a0_0) := (blk_cell BK268.out 0).trans rfl; have hcz9_1 : w7.cell? ⟨gb268, 1, none⟩ = some (.int .i64 a0_1) := (blk_cell BK268.out 1).trans rfl; have hcz9_2 : w7.cell? ⟨gb268, 2, none⟩ = some (.bool a0_2) := (blk_cell BK268.out 2).trans rfl; have hfz9_0 := blk_frozen BK268.out 0; have hfz9_1 := blk_frozen BK268.out 1; have hfz9_2 := blk_frozen BK268.out 2; have hcz10_0 : w7.cell? ⟨gb269, 0, none⟩ = some (.int .i64 a1_0) := (blk_cell BK269.out 0).trans rfl; have hcz10_1 : w7.cell? ⟨gb269, 1, none⟩ = some (.int .i64 a1_1) := (blk_cell BK269.out 1).trans rfl; have hcz10_2 : w7.cell? ⟨gb269, 2, none⟩ = some (.bool a1_2) := (blk_cell BK269.out 2).trans rfl; have hfz10_0 := blk_frozen BK269.out 0; have hfz10_1 := blk_frozen BK269.out 1; have hfz10_2 := blk_frozen BK269.out 2))
        go_ret
        exact ⟨by first | rfl | (simp [errW_none, errW_some] <;> rfl) | (simp [*, errW_none, errW_some] <;> rfl), by repeat (first | (with_reducible first | exact HB.out | apply below_alloc | apply pw_below_drewN | apply below_drew1 | refine below_set ?_ GE268.out | refine below_set ?_ GE269.out) | exact HB.out)⟩
      · rw [if_neg c5] at H
        have c5b0 : (a0_2 != a1_2) = false := by simpa using c5
        (try (have c5b1 : decide (a0_2 = a1_2) = true := by simpa using c5))
        (try (have c5b2 : (a0_2 == a1_2) = true := by simpa using c5))
        clear c5
        obtain rfl := Option.some.inj H
        go_enter Try.func85, Try.ntmps85
        go_wp2_with (first | ((with_reducible refine gate_dst (N := 2) rfl ?_); refine box_event ?hg (N := 2) ?hd (cs := #[.int .i64 a0_0, .int .i64 a0_1, .bool a0_2]) (t := 70) ?hr ?_; (case hd => rfl); (case hg => rfl); (case hr => first | (go_simp; done) | (go_simp; rfl)); intro gb268 hg w11 hbox hb; have n0_ := Aside0.mk (below_step (by repeat (first | (with_reducible first | exact HB.out | apply below_alloc | apply pw_below_drewN | apply below_drew1) | exact HB.out)) hb); have n1_ := Aside0.mk (hbox); have n2_ := Aside0.mk ((by rw [hg]; exact (below_size (by repeat (first | (with_reducible first | exact HB.out | apply below_alloc | apply pw_below_drewN | apply below_drew1) | exact HB.out))) : w.heap.size ≤ gb268)); have n3_ := Aside0.mk ((by rw [hg]; exact (below_size (by repeat (first | (with_reducible first | exact HB.out | apply below_alloc | apply pw_below_drewN | apply below_drew1) | exact HB.out))) : w.heap.size ≤ gb268)); clear HB; have HB := n0_; have BK268 := n1_; have GW268 := n2_; have GE268 := n3_; clear n0_ n1_ n2_ n3_; clear hb hbox hg) | ((with_reducible refine gate_dst (N := 3) rfl ?_); refine box_event ?hg (N := 3) ?hd (cs := #[.int .i64 a1_0, .int .i64 a1_1, .bool a1_2]) (t := 70) ?hr ?_; (case hd => rfl); (case hg => rfl); (case hr => first | (go_simp; done) | (go_simp; rfl)); intro gb269 hg w12 hbox hb; have n0_ := Aside0.mk (blk_below (g := gb268) (o := .cells #[.int .i64 a0_0, .int .i64 a0_1, .bool a0_2] 70 (0, 0)) (by (with_reducible repeat (first | refine blk_drewN ?_ _ | refine blk_drew ?_ | refine blk_alloc ?_ _)); exact BK268.out) hb); have n1_ := Aside0.mk (below_step (by repeat (first | (with_reducible first | exact HB.out | apply below_alloc | apply pw_below_drewN | apply below_drew1 | refine below_set ?_ GE268.out) | exact HB.out)) hb); have n2_ := Aside0.mk (hbox); have n3_ := Aside0.mk ((by rw [hg]; exact (below_size (by repeat (first | (with_reducible first | exact HB.out | apply below_alloc | apply pw_below_drewN | apply below_drew1 | refine below_set ?_ GE268.out) | exact HB.out))) : w.heap.size ≤ gb269)); have n4_ := Aside0.mk ((by rw [hg]; exact (below_size (by repeat (first | (with_reducible first | exact HB.out | apply below_alloc | apply pw_below_drewN | apply below_drew1 | refine below_set ?_ GE268.out) | exact HB.out))) : w.heap.size ≤ gb269)); have n5_ := Aside0.mk ((by rw [hg]; exact Nat.ne_of_lt (blk_lt (g := gb268) (o := .cells #[.int .i64 a0_0, .int .i64 a0_1, .bool a0_2] 70 (0, 0)) (by (with_reducible repeat (first | refine blk_drewN ?_ _ | refine blk_drew ?_ | refine blk_alloc ?_ _)); exact BK268.out)) : gb268 ≠ gb269)); have n6_ := Aside0.mk ((by rw [hg]; exact Nat.ne_of_gt (blk_lt (g := gb268) (o := .cells #[.int .i64 a0_0, .int .i64 a0_1, .bool a0_2] 70 (0, 0)) (by (with_reducible repeat (first | refine blk_drewN ?_ _ | refine blk_drew ?_ | refine blk_alloc ?_ _)); exact BK268.out)) : gb269 ≠ gb268)); clear BK268; clear HB; have BK268 := n0_; have HB := n1_; have BK269 := n2_; have GW269 := n3_; have GE269 := n4_; have NB268_269 := n5_; have NB269_268 := n6_; clear n0_ n1_ n2_ n3_ n4_ n5_ n6_; clear hb hbox hg; have hnb13 := NB268_269.out; have hnc13 := NB269_268.out; have hcz14_0 : w12.cell? ⟨gb268, 0, none⟩ = some (.int .i64 a0_0) := (blk_cell BK268.out 0).trans rfl; have hcz14_1 : w12.cell? ⟨gb268, 1, none⟩ = some (.int .i64 a0_1) := (blk_cell BK268.out 1).trans rfl; have hcz14_2 : w12.cell? ⟨gb268, 2, none⟩ = some (.bool a0_2) := (blk_cell BK268.out 2).trans rfl; have hfz14_0 := blk_frozen BK268.out 0; have hfz14_1 := blk_frozen BK268.out 1; have hfz14_2 := blk_frozen BK268.out 2; have hcz15_0 : w12.cell? ⟨gb269, 0, none⟩ = some (.int .i64 a1_0) := (blk_cell BK269.out 0).trans rfl; have hcz15_1 : w12.cell? ⟨gb269, 1, none⟩ = some (.int .i64 a1_1) := (blk_cell BK269.out 1).trans rfl; have hcz15_2 : w12.cell? ⟨gb269, 2, none⟩ = some (.bool a1_2) := (blk_cell BK269.out 2).trans rfl; have hfz15_0 := blk_frozen BK269.out 0; have hfz15_1 := blk_frozen BK269.out 1; have hfz15_2 := blk_frozen BK269.out 2))
        go_ret
        exact ⟨by first | rfl | (simp [errW_none, errW_some] <;> rfl) | (simp [*, errW_none, errW_some] <;> rfl), by repeat (first | (with_reducible first | exact HB.out | apply below_alloc | apply pw_below_drewN | apply below_drew1 | refine below_set ?_ GE268.out | refine below_set ?_ GE269.out) | exact HB.out)⟩
    · rw [if_neg c4] at H
      have c4b0 : (a0_1 == a1_1) = false := beq_eq_false_iff_ne.mpr c4
      have c4b1 : (a0_1 != a1_1) = true := bne_iff_ne.mpr c4
      obtain rfl := Option.some.inj H
      go_enter Try.func85, Try.ntmps85
      go_wp2_with (first | ((with_reducible refine gate_dst (N := 2) rfl ?_); refine box_event ?hg (N := 2) ?hd (cs := #[.int .i64 a0_0, .int .i64 a0_1, .bool a0_2]) (t := 70) ?hr ?_; (case hd => rfl); (case hg => rfl); (case hr => first | (go_simp; done) | (go_simp; rfl)); intro gb268 hg w16 hbox hb; have n0_ := Aside0.mk (below_step (by repeat (first | (with_reducible first | exact HB.out | apply below_alloc | apply pw_below_drewN | apply below_drew1) | exact HB.out)) hb); have n1_ := Aside0.mk (hbox); have n2_ := Aside0.mk ((by rw [hg]; exact (below_size (by repeat (first | (with_reducible first | exact HB.out | apply below_alloc | apply pw_below_drewN | apply below_drew1) | exact HB.out))) : w.heap.size ≤ gb268)); have n3_ := Aside0.mk ((by rw [hg]; exact (below_size (by repeat (first | (with_reducible first | exact HB.out | apply below_alloc | apply pw_below_drewN | apply below_drew1) | exact HB.out))) : w.heap.size ≤ gb268)); clear HB; have HB := n0_; have BK268 := n1_; have GW268 := n2_; have GE268 := n3_; clear n0_ n1_ n2_ n3_; clear hb hbox hg) | ((with_reducible refine gate_dst (N := 3) rfl ?_); refine box_event ?hg (N := 3) ?hd (cs := #[.int .i64 a1_0, .int .i64 a1_1, .bool a1_2]) (t := 70) ?hr ?_; (case hd => rfl); (case hg => rfl); (case hr => first | (go_simp; done) | (go_simp; rfl)); intro gb269 hg w17 hbox hb; have n0_ := Aside0.mk (blk_below (g := gb268) (o := .cells #[.int .i64 a0_0, .int .i64 a0_1, .bool a0_2] 70 (0, 0)) (by (with_reducible repeat (first | refine blk_drewN ?_ _ | refine blk_drew ?_ | refine blk_alloc ?_ _)); exact BK268.out) hb); have n1_ := Aside0.mk (below_step (by repeat (first | (with_reducible first | exact HB.out | apply below_alloc | apply pw_below_drewN | apply below_drew1 | refine below_set ?_ GE268.out) | exact HB.out)) hb); have n2_ := Aside0.mk (hbox); have n3_ := Aside0.mk ((by rw [hg]; exact (below_size (by repeat (first | (with_reducible first | exact HB.out | apply below_alloc | apply pw_below_drewN | apply below_drew1 | refine below_set ?_ GE268.out) | exact HB.out))) : w.heap.size ≤ gb269)); have n4_ := Aside0.mk ((by rw [hg]; exact (below_size (by repeat (first | (with_reducible first | exact HB.out | apply below_alloc | apply pw_below_drewN | apply below_drew1 | refine below_set ?_ GE268.out) | exact HB.out))) : w.heap.size ≤ gb269)); have n5_ := Aside0.mk ((by rw [hg]; exact Nat.ne_of_lt (blk_lt (g := gb268) (o := .cells #[.int .i64 a0_0, .int .i64 a0_1, .bool a0_2] 70 (0, 0)) (by (with_reducible repeat (first | refine blk_drewN ?_ _ | refine blk_drew ?_ | refine blk_alloc ?_ _)); exact BK268.out)) : gb268 ≠ gb269)); have n6_ := Aside0.mk ((by rw [hg]; exact Nat.ne_of_gt (blk_lt (g := gb268) (o := .cells #[.int .i64 a0_0, .int .i64 a0_1, .bool a0_2] 70 (0, 0)) (by (with_reducible repeat (first | refine blk_drewN ?_ _ | refine blk_drew ?_ | refine blk_alloc ?_ _)); exact BK268.out)) : gb269 ≠ gb268)); clear BK268; clear HB; have BK268 := n0_; have HB := n1_; have BK269 := n2_; have GW269 := n3_; have GE269 := n4_; have NB268_269 := n5_; have NB269_268 := n6_; clear n0_ n1_ n2_ n3_ n4_ n5_ n6_; clear hb hbox hg; have hnb18 := NB268_269.out; have hnc18 := NB269_268.out; have hcz19_0 : w17.cell? ⟨gb268, 0, none⟩ = some (.int .i64 a0_0) := (blk_cell BK268.out 0).trans rfl; have hcz19_1 : w17.cell? ⟨gb268, 1, none⟩ = some (.int .i64 a0_1) := (blk_cell BK268.out 1).trans rfl; have hcz19_2 : w17.cell? ⟨gb268, 2, none⟩ = some (.bool a0_2) := (blk_cell BK268.out 2).trans rfl; have hfz19_0 := blk_frozen BK268.out 0; have hfz19_1 := blk_frozen BK268.out 1; have hfz19_2 := blk_frozen BK268.out 2; have hcz20_0 : w17.cell? ⟨gb269, 0, none⟩ = some (.int .i64 a1_0) := (blk_cell BK269.out 0).trans rfl; have hcz20_1 : w17.cell? ⟨gb269, 1, none⟩ = some (.int .i64 a1_1) := (blk_cell BK269.out 1).trans rfl; have hcz20_2 : w17.cell? ⟨gb269, 2, none⟩ = some (.bool a1_2) := (blk_cell BK269.out 2).trans rfl; have hfz20_0 := blk_frozen BK269.out 0; have hfz20_1 := blk_frozen BK269.out 1; have hfz20_2 := blk_frozen BK269.out 2))
      go_ret
      exact ⟨by first | rfl | (simp [errW_none, errW_some] <;> rfl) | (simp [*, errW_none, errW_some] <;> rfl), by repeat (first | (with_reducible first | exact HB.out | apply below_alloc | apply pw_below_drewN | apply below_drew1 | refine below_set ?_ GE268.out | refine below_set ?_ GE269.out) | exact HB.out)⟩
  · rw [if_neg c3] at H
    have c3b0 : (a0_0 == a1_0) = false := beq_eq_false_iff_ne.mpr c3
    have c3b1 : (a0_0 != a1_0) = true := bne_iff_ne.mpr c3
    obtain rfl := Option.some.inj H
    go_enter Try.func85, Try.ntmps85
    go_wp2_with (first | ((with_reducible refine gate_dst (N := 2) rfl ?_); refine box_event ?hg (N := 2) ?hd (cs := #[.int .i64 a0_0, .int .i64 a0_1, .bool a0_2]) (t := 70) ?hr ?_; (case hd => rfl); (case hg => rfl); (case hr => first | (go_simp; done) | (go_simp; rfl)); intro gb268 hg w21 hbox hb; have n0_ := Aside0.mk (below_step (by repeat (first | (with_reducible first | exact HB.out | apply below_alloc | apply pw_below_drewN | apply below_drew1) | exact HB.out)) hb); have n1_ := Aside0.mk (hbox); have n2_ := Aside0.mk ((by rw [hg]; exact (below_size (by repeat (first | (with_reducible first | exact HB.out | apply below_alloc | apply pw_below_drewN | apply below_drew1) | exact HB.out))) : w.heap.size ≤ gb268)); have n3_ := Aside0.mk ((by rw [hg]; exact (below_size (by repeat (first | (with_reducible first | exact HB.out | apply below_alloc | apply pw_below_drewN | apply below_drew1) | exact HB.out))) : w.heap.size ≤ gb268)); clear HB; have HB := n0_; have BK268 := n1_; have GW268 := n2_; have GE268 := n3_; clear n0_ n1_ n2_ n3_; clear hb hbox hg) | ((with_reducible refine gate_dst (N := 3) rfl ?_); refine box_event ?hg (N := 3) ?hd (cs := #[.int .i64 a1_0, .int .i64 a1_1, .bool a1_2]) (t := 70) ?hr ?_; (case hd => rfl); (case hg => rfl); (case hr => first | (go_simp; done) | (go_simp; rfl)); intro gb269 hg w22 hbox hb; have n0_ := Aside0.mk (blk_below (g := gb268) (o := .cells #[.int .i64 a0_0, .int .i64 a0_1, .bool a0_2] 70 (0, 0)) (by (with_reducible repeat (first | refine blk_drewN ?_ _ | refine blk_drew ?_ | refine blk_alloc ?_ _)); exact BK268.out) hb); have n1_ := Aside0.mk (below_step (by repeat (first | (with_reducible first | exact HB.out | apply below_alloc | apply pw_below_drewN | apply below_drew1 | refine below_set ?_ GE268.out) | exact HB.out)) hb); have n2_ := Aside0.mk (hbox); have n3_ := Aside0.mk ((by rw [hg]; exact (below_size (by repeat (first | (with_reducible first | exact HB.out | apply below_alloc | apply pw_below_drewN | apply below_drew1 | refine below_set ?_ GE268.out) | exact HB.out))) : w.heap.size ≤ gb269)); have n4_ := Aside0.mk ((by rw [hg]; exact (below_size (by repeat (first | (with_reducible first | exact HB.out | apply below_alloc | apply pw_below_drewN | apply below_drew1 | refine below_set ?_ GE268.out) | exact HB.out))) : w.heap.size ≤ gb269)); have n5_ := Aside0.mk ((by rw [hg]; exact Nat.ne_of_lt (blk_lt (g := gb268) (o := .cells #[.int .i64 a0_0, .int .i64 a0_1, .bool a0_2] 70 (0, 0)) (by (with_reducible repeat (first | refine blk_drewN ?_ _ | refine blk_drew ?_ | refine blk_alloc ?_ _)); exact BK268.out)) : gb268 ≠ gb269)); have n6_ := Aside0.mk ((by rw [hg]; exact Nat.ne_of_gt (blk_lt (g := gb268) (o := .cells #[.int .i64 a0_0, .int .i64 a0_1, .bool a0_2] 70 (0, 0)) (by (with_reducible repeat (first | refine blk_drewN ?_ _ | refine blk_drew ?_ | refine blk_alloc ?_ _)); exact BK268.out)) : gb269 ≠ gb268)); clear BK268; clear HB; have BK268 := n0_; have HB := n1_; have BK269 := n2_; have GW269 := n3_; have GE269 := n4_; have NB268_269 := n5_; have NB269_268 := n6_; clear n0_ n1_ n2_ n3_ n4_ n5_ n6_; clear hb hbox hg; have hnb23 := NB268_269.out; have hnc23 := NB269_268.out; have hcz24_0 : w22.cell? ⟨gb268, 0, none⟩ = some (.int .i64 a0_0) := (blk_cell BK268.out 0).trans rfl; have hcz24_1 : w22.cell? ⟨gb268, 1, none⟩ = some (.int .i64 a0_1) := (blk_cell BK268.out 1).trans rfl; have hcz24_2 : w22.cell? ⟨gb268, 2, none⟩ = some (.bool a0_2) := (blk_cell BK268.out 2).trans rfl; have hfz24_0 := blk_frozen BK268.out 0; have hfz24_1 := blk_frozen BK268.out 1; have hfz24_2 := blk_frozen BK268.out 2; have hcz25_0 : w22.cell? ⟨gb269, 0, none⟩ = some (.int .i64 a1_0) := (blk_cell BK269.out 0).trans rfl; have hcz25_1 : w22.cell? ⟨gb269, 1, none⟩ = some (.int .i64 a1_1) := (blk_cell BK269.out 1).trans rfl; have hcz25_2 : w22.cell? ⟨gb269, 2, none⟩ = some (.bool a1_2) := (blk_cell BK269.out 2).trans rfl; have hfz25_0 := blk_frozen BK269.out 0; have hfz25_1 := blk_frozen BK269.out 1; have hfz25_2 := blk_frozen BK269.out 2))
    go_ret
    exact ⟨by first | rfl | (simp [errW_none, errW_some] <;> rfl) | (simp [*, errW_none, errW_some] <;> rfl), by repeat (first | (with_reducible first | exact HB.out | apply below_alloc | apply pw_below_drewN | apply below_drew1 | refine below_set ?_ GE268.out | refine below_set ?_ GE269.out) | exact HB.out)⟩

end Go.Proofs.Ytdpejnckojhgjaa.P
end
section
namespace Go.Proofs.Ytdpejnckojhgjaa.P
open Go.RowKit Go.Proofs.YtdpejnckojhgjaaW.PrintWords Go.Proofs.YtdpejnckojhgjaaW.PrintLast Go.Proofs.YtdpejnckojhgjaaW.PrintMore
attribute [local go_sem] max2_int min2_int max_two min_two max_three min_three max_four min_four   -- for this text's walks alone
set_option linter.unusedVariables false
set_option linter.unusedSimpArgs false

/-! ### laws_eqRegionS: function 27 -/
def laws_eqRegionS.l0 : Nat → List (S70) → List (S70) → Int → Option (Bool)
  | 0, _, _, _ => none
  | k + 1, x0, x1, x5 => if x5 < (x0.length : Int) then (if 0 ≤ x5 then (if x5 < (x1.length : Int) then ((laws_eqRegion.f ((rd_T70 x0 x5).f0) ((rd_T70 x0 x5).f1) ((rd_T70 x0 x5).f2) ((rd_T70 x1 x5).f0) ((rd_T70 x1 x5).f1) ((rd_T70 x1 x5).f2)).bind fun t272 => (if t272 = true then (laws_eqRegionS.l0 k x0 x1 (wrap64 (x5 + 1))) else (some false))) else (none)) else (none)) else (some true)
def laws_eqRegionS.f (k : Nat) (l0 : List (S70)) (l1 : List (S70)) : Option (Bool) := if (l0.length : Int) = (l1.length : Int) then (laws_eqRegionS.l0 k l0 l1 0) else (some false)
theorem laws_eqRegionS.mono_l : ∀ k, (∀ y0 y1 y2, LeO (laws_eqRegionS.l0 k y0 y1 y2) (laws_eqRegionS.l0 (k + 1) y0 y1 y2))
  | 0 => fun _ _ _ r h => by simp [laws_eqRegionS.l0] at h
  | k + 1 => by
    have ih0 := laws_eqRegionS.mono_l k
    · intro y0 y1 y2
      unfold laws_eqRegionS.l0
      repeat' first
      | (with_reducible exact ih0 _ _ _)
      | (with_reducible exact LeO.refl _)
      | (with_reducible exact LeO.none _)
      | (with_reducible refine LeO.ite ?_ ?_)
      | (with_reducible refine LeO.bind ?_ (fun _ => ?_))
      | exact ih0 _ _ _
      | exact LeO.none _
      | refine LeO.ite ?_ ?_
      | refine LeO.bind ?_ (fun _ => ?_)
theorem laws_eqRegionS.mono : ∀ a0 a1 k, LeO (laws_eqRegionS.f k a0 a1) (laws_eqRegionS.f (k + 1) a0 a1) := by
  intro a0 a1 k
  have ih0 := laws_eqRegionS.mono_l k
  unfold laws_eqRegionS.f
  repeat' first
      | (with_reducible exact ih0 _ _ _)
      | (with_reducible exact LeO.refl _)
      | (with_reducible exact LeO.none _)
      | (with_reducible refine LeO.ite ?_ ?_)
      | (with_reducible refine LeO.bind ?_ (fun _ => ?_))
      | exact ih0 _ _ _
      | exact LeO.none _
      | refine LeO.ite ?_ ?_
      | refine LeO.bind ?_ (fun _ => ?_)
def laws_eqRegionS.T6 : Bool × List (List Nat × List Nat) := (true, [([], []), ([], []), ([0, 1], [0, 1]), ([2], [2]), ([], []), ([], []), ([4, 5], [4, 5]), ([6], [6]), ([3, 7], [3, 7]), ([8], [8])])
def laws_eqRegionS.B6 : List Nat := [0, 0, 3, 7, 0, 0, 48, 112, 255, 511]
theorem laws_eqRegionS.tab6 : rtab .any (opsOf Try.f27 6) = laws_eqRegionS.T6 := by kernel_rfl
theorem laws_eqRegionS.bits6 : waitsOk laws_eqRegionS.T6.2 laws_eqRegionS.B6 = true := by kernel_rfl
set_option maxHeartbeats 8000000 in
set_option maxRecDepth 100000 in
theorem laws_eqRegionS.calls (k : Nat) (A0 : Option Addr) (c0 : Nat) (l0 : List (S70)) (A1 : Option Addr) (c1 : Nat) (l1 : List (S70)) (r : Bool) (w : World) (hr0 : Kd.C k70 w A0 l0.length l0) (hc0 : l0.length ≤ c0) (hr1 : Kd.C k70 w A1 l1.length l1) (hc1 : l1.length ≤ c1) (h : laws_eqRegionS.f k l0 l1 = some r) :
    Calls Try.prog 27 #[.slice A0 l0.length c0, .slice A1 l1.length c1] w fun e w' => e = .returned (.bool r) ∧ Below w.heap.size w w' := by
  have hu70 := Try.underlying70
  have HR0 := Aside0.mk hr0
  have HC0 := Aside0.mk hc0
  clear hr0 hc0
  have HR1 := Aside0.mk hr1
  have HC1 := Aside0.mk hc1
  clear hr1 hc1
  have HB := Aside0.mk (Below.refl w.heap.size w)
  have H : (if (l0.length : Int) = (l1.length : Int) then (laws_eqRegionS.l0 k l0 l1 0) else (some false)) = some r := h
  clear h
  by_cases c3 : (l0.length : Int) = (l1.length : Int)
  · rw [if_pos c3] at H
    have c3b0 : ((l0.length : Int) == (l1.length : Int)) = true := beq_iff_eq.mpr c3
    have c3b1 : ((l0.length : Int) != (l1.length : Int)) = false := bne_eq_false_iff_eq.mpr c3
    have c3b2 : (l0.length == l1.length) = true := by first | simpa using c3 | (simp at c3 ⊢; omega)
    clear c3
    have H' := Aside0.mk H
    clear H
    go_enter Try.func27, Try.ntmps27
    go_wp2
    go_loopg [5] k (fun kq v5 w' => ∃ (x5_1 : Int), v5 = .int .i64 x5_1 ∧ Aside0 (laws_eqRegionS.l0 kq l0 l1 x5_1 = some r) ∧ Aside0 (kq ≤ k) ∧ Aside0 (Below w.heap.size w w'))
    case atStart => exact ⟨(0), (by first | rfl | (simp; done) | (simp [*]; done)), H', ⟨Nat.le_refl _⟩, ⟨by repeat (first | (with_reducible first | exact HB.out | apply below_alloc | apply pw_below_drewN | apply below_drew1) | exact HB.out)⟩⟩
    case round =>
      clear H'
      try clear c1
      try clear c2
      try clear p2
      try clear c3
      try clear c3b0
      try clear c3b1
      try clear c3b2
      obtain ⟨x5_1, rfl, HA, HK1, HB⟩ := hrel
      cases gk with
      | zero => exact absurd HA.out (by simp [laws_eqRegionS.l0])
      | succ k1 =>
        have H := HA.out
        clear HA
        simp only [laws_eqRegionS.l0] at H
        by_cases c4 : x5_1 < (l0.length : Int)
        · rw [if_pos c4] at H
          have c4b0 : decide (x5_1 < (l0.length : Int)) = true := decide_eq_true c4
          clear c4
          by_cases c5 : 0 ≤ x5_1
          · rw [if_pos c5] at H
            have c5b0 : decide (0 ≤ x5_1) = true := decide_eq_true c5
            clear c5
            by_cases c6 : x5_1 < (l1.length : Int)
            · rw [if_pos c6] at H
              have c6b0 : decide (x5_1 < (l1.length : Int)) = true := decide_eq_true c6
              clear c6
              replace H := Option.bind_eq_some_iff.mp H
              obtain ⟨t272, A70, H⟩ := H
              replace H : (if t272 = true then (laws_eqRegionS.l0 k1 l0 l1 (wrap64 (x5_1 + 1))) else (some false)) = some r := H
              have A7 := Aside0.mk A70
              clear A70
              by_cases c8 : t272 = true
              · subst c8
                have H1 : (laws_eqRegionS.l0 k1 l0 l1 (wrap64 (x5_1 + 1))) = some r := by rw [if_pos rfl] at H; exact H
                clear H
                have H := H1
                clear H1
                have H' := Aside0.mk H
                clear H
                try go_wp2
                have n0_ := Aside0.mk (below_drew1 HB.out)
                clear HB
                have HB := n0_
                clear n0_
                have p270 : 0 ≤ (x5_1 : Int) := of_decide_eq_true (by first | (with_reducible assumption) | assumption)
                have q270 : x5_1 < (l0.length : Int) := of_decide_eq_true (by first | (with_reducible assumption) | assumption)
                obtain ⟨ad270, e270, hx270_0, hx270_1, hx270_2⟩ := at_T70 HR0.out x5_1 p270 q270
                have hw270_2 := hx270_2
                have hw270_1 := hx270_1
                have hw270_0 := hx270_0
                cases e270
                replace hx270_0 := (HB.out.cell (World.block_lt_of_cell? w _ hx270_0)).trans hx270_0
                replace hx270_1 := (HB.out.cell (World.block_lt_of_cell? w _ hx270_1)).trans hx270_1
                replace hx270_2 := (HB.out.cell (World.block_lt_of_cell? w _ hx270_2)).trans hx270_2
                replace p270 := eq_true p270
                replace q270 := eq_true q270
                have p271 : 0 ≤ (x5_1 : Int) := of_decide_eq_true (by first | (with_reducible assumption) | assumption)
                have q271 : x5_1 < (l1.length : Int) := of_decide_eq_true (by first | (with_reducible assumption) | assumption)
                obtain ⟨ad271, e271, hx271_0, hx271_1, hx271_2⟩ := at_T70 HR1.out x5_1 p271 q271
                have hw271_2 := hx271_2
                have hw271_1 := hx271_1
                have hw271_0 := hx271_0
                cases e271
                replace hx271_0 := (HB.out.cell (World.block_lt_of_cell? w _ hx271_0)).trans hx271_0
                replace hx271_1 := (HB.out.cell (World.block_lt_of_cell? w _ hx271_1)).trans hx271_1
                replace hx271_2 := (HB.out.cell (World.block_lt_of_cell? w _ hx271_2)).trans hx271_2
                replace p271 := eq_true p271
                replace q271 := eq_true q271
                refine start_ (n := 10) (S := fun w' => w'.cell? (ad270.add ((x5_1).toNat * 3)) = some (.int .i64 ((rd_T70 l0 x5_1).f0)) ∧ w'.cell? ⟨(ad270.add ((x5_1).toNat * 3)).block, (ad270.add ((x5_1).toNat * 3)).off + 1, none⟩ = some (.int .i64 ((rd_T70 l0 x5_1).f1)) ∧ w'.cell? ⟨(ad270.add ((x5_1).toNat * 3)).block, (ad270.add ((x5_1).toNat * 3)).off + 2, none⟩ = some (.bool ((rd_T70 l0 x5_1).f2)) ∧ w'.cell? (ad271.add ((x5_1).toNat * 3)) = some (.int .i64 ((rd_T70 l1 x5_1).f0)) ∧ w'.cell? ⟨(ad271.add ((x5_1).toNat * 3)).block, (ad271.add ((x5_1).toNat * 3)).off + 1, none⟩ = some (.int .i64 ((rd_T70 l1 x5_1).f1)) ∧ w'.cell? ⟨(ad271.add ((x5_1).toNat * 3)).block, (ad271.add ((x5_1).toNat * 3)).off + 2, none⟩ = some (.bool ((rd_T70 l1 x5_1).f2))) (ds := []) #[false, false, false, false, false, false, false, false, false, false] (by kernel_rfl) rfl rfl ⟨((HB.out.cell (World.block_lt_of_cell? w _ hw270_0)).trans hw270_0), ((HB.out.cell (World.block_lt_of_cell? w _ hw270_1)).trans hw270_1), ((HB.out.cell (World.block_lt_of_cell? w _ hw270_2)).trans hw270_2), ((HB.out.cell (World.block_lt_of_cell? w _ hw271_0)).trans hw271_0), ((HB.out.cell (World.block_lt_of_cell? w _ hw271_1)).trans hw271_1), ((HB.out.cell (World.block_lt_of_cell? w _ hw271_2)).trans hw271_2)⟩ (fun hHeld => ?_); refine with_tabW laws_eqRegionS.tab6 laws_eqRegionS.bits6 (fun HT_ HW_ => ?_)
                generalize wr.drew = w9 at HB hx270_0 hx270_1 hx270_2 hx271_0 hx271_1 hx271_2 hHeld ⊢
                refine pure_ (i := 0) (N := some 17) (v := ?_) (a' := ?_) #[true, false, false, false, false, false, false, false, false, false] rfl rfl (any_of HT_.out (by kernel_rfl)) (fun _ _ _ h => h) (Or.inl ⟨by rfl, ?_⟩) ?_ ?_
                rotate_left
                · intro w'
                  go_simp
                  with_reducible rfl
                rotate_left
                · simp only [Act.put, List.setIfInBounds_toArray, List.set_cons_zero, List.set_cons_succ, i64_w, i32_w]
                  rfl
                refine pure_ (i := 1) (N := some 18) (v := ?_) (a' := ?_) #[true, true, false, false, false, false, false, false, false, false] rfl rfl (any_of HT_.out (by kernel_rfl)) (fun _ _ _ h => h) (Or.inl ⟨by rfl, ?_⟩) ?_ ?_
                rotate_left
                · intro w'
                  go_simp
                  with_reducible rfl
                rotate_left
                · simp only [Act.put, List.setIfInBounds_toArray, List.set_cons_zero, List.set_cons_succ, i64_w, i32_w]
                  rfl
                refine pure_ (i := 2) (N := some 19) (v := ?_) (a' := ?_) #[true, true, true, false, false, false, false, false, false, false] rfl rfl (any_of HT_.out (by kernel_rfl)) (fun _ _ _ h => h) (Or.inl ⟨by rfl, ?_⟩) ?_ ?_
                rotate_left
                · intro w'
                  go_simp
                  with_reducible rfl
                rotate_left
                · simp only [Act.put, List.setIfInBounds_toArray, List.set_cons_zero, List.set_cons_succ, i64_w, i32_w]
                  rfl
                refine pure_ (i := 4) (N := some 21) (v := ?_) (a' := ?_) #[true, true, true, false, true, false, false, false, false, false] rfl rfl (any_of HT_.out (by kernel_rfl)) (fun _ _ _ h => h) (Or.inl ⟨by rfl, ?_⟩) ?_ ?_
                rotate_left
                · intro w'
                  go_simp
                  with_reducible rfl
                rotate_left
                · simp only [Act.put, List.setIfInBounds_toArray, List.set_cons_zero, List.set_cons_succ, i64_w, i32_w]
                  rfl
                refine pure_ (i := 5) (N := some 22) (v := ?_) (a' := ?_) #[true, true, true, false, true, true, false, false, false, false] rfl rfl (any_of HT_.out (by kernel_rfl)) (fun _ _ _ h => h) (Or.inl ⟨by rfl, ?_⟩) ?_ ?_
                rotate_left
                · intro w'
                  go_simp
                  with_reducible rfl
                rotate_left
                · simp only [Act.put, List.setIfInBounds_toArray, List.set_cons_zero, List.set_cons_succ, i64_w, i32_w]
                  rfl
                refine pure_ (i := 6) (N := some 23) (v := ?_) (a' := ?_) #[true, true, true, false, true, true, true, false, false, false] rfl rfl (any_of HT_.out (by kernel_rfl)) (fun _ _ _ h => h) (Or.inl ⟨by rfl, ?_⟩) ?_ ?_
                rotate_left
                · intro w'
                  go_simp
                  with_reducible rfl
                rotate_left
                · simp only [Act.put, List.setIfInBounds_toArray, List.set_cons_zero, List.set_cons_succ, i64_w, i32_w]
                  rfl
                refine take_ (i := 3) (N := some 20) (v := ?_) (a' := ?_) #[true, true, true, true, true, true, true, false, false, false] rfl rfl (take_ofW HT_.out HW_.out (by kernel_rfl)) (fun _ _ _ h => h) (Or.inl ⟨by rfl, ?_⟩) hHeld ?_ ?_
                rotate_left
                · rintro w' ⟨s0, s1, s2, s3, s4, s5⟩
                  go_simp
                  with_reducible rfl
                rotate_left
                · simp only [Act.put, List.setIfInBounds_toArray, List.set_cons_zero, List.set_cons_succ, i64_w, i32_w]
                  rfl
                refine take_ (i := 7) (N := some 24) (v := ?_) (a' := ?_) #[true, true, true, true, true, true, true, true, false, false] rfl rfl (take_ofW HT_.out HW_.out (by kernel_rfl)) (fun _ _ _ h => h) (Or.inl ⟨by rfl, ?_⟩) hHeld ?_ ?_
                rotate_left
                · rintro w' ⟨s0, s1, s2, s3, s4, s5⟩
                  go_simp
                  with_reducible rfl
                rotate_left
                · simp only [Act.put, List.setIfInBounds_toArray, List.set_cons_zero, List.set_cons_succ, i64_w, i32_w]
                  rfl
                refine one_ (i := 8) (N := some 25) #[true, true, true, true, true, true, true, true, true, false] rfl rfl (one_of HT_.out (by kernel_rfl)) (by decide) (fun K hK => ?_)
                refine goes_ Try.func85 (by kernel_rfl) rfl #[.agg #[.int .i64 ((rd_T70 l0 x5_1).f0), .int .i64 ((rd_T70 l0 x5_1).f1), .bool ((rd_T70 l0 x5_1).f2)], .agg #[.int .i64 ((rd_T70 l1 x5_1).f0), .int .i64 ((rd_T70 l1 x5_1).f1), .bool ((rd_T70 l1 x5_1).f2)]] (by rfl) rfl rfl (by (try simp only [List.map_toArray, List.map_cons, List.map_nil]); first | done | rfl | (simp only [List.length_drop, List.length_take]; rfl)) ?_
                with_reducible refine (laws_eqRegion.calls ((rd_T70 l0 x5_1).f0) ((rd_T70 l0 x5_1).f1) ((rd_T70 l0 x5_1).f2) ((rd_T70 l1 x5_1).f0) ((rd_T70 l1 x5_1).f1) ((rd_T70 l1 x5_1).f2) true _ A7.out).mono ?_
                rintro e w10 ⟨rfl, hb⟩
                refine ⟨_, rfl, ?_⟩
                have n0_ := Aside0.mk (below_step (by repeat (first | (with_reducible first | exact HB.out | apply below_alloc | apply pw_below_drewN | apply below_drew1) | exact HB.out)) hb)
                clear HB
                have HB := n0_
                clear n0_
                (try clear hb)
                (try clear hb2)
                (try clear hk)
                (try clear hi)
                refine hK.out _ _ ⟨((HB.out.cell (World.block_lt_of_cell? w _ hw270_0)).trans hw270_0), ((HB.out.cell (World.block_lt_of_cell? w _ hw270_1)).trans hw270_1), ((HB.out.cell (World.block_lt_of_cell? w _ hw270_2)).trans hw270_2), ((HB.out.cell (World.block_lt_of_cell? w _ hw271_0)).trans hw271_0), ((HB.out.cell (World.block_lt_of_cell? w _ hw271_1)).trans hw271_1), ((HB.out.cell (World.block_lt_of_cell? w _ hw271_2)).trans hw271_2)⟩ (fun hHeld => ?_)
                clear hK K
                refine norm_ (a' := ?_) ?_ ?_
                rotate_left
                · show Act.put _ (some 25) _ = _
                  simp only [Act.put, List.setIfInBounds_toArray, List.set_cons_zero, List.set_cons_succ, i64_w, i32_w]
                  rfl
                refine pure_ (i := 9) (N := some 26) (v := ?_) (a' := ?_) #[true, true, true, true, true, true, true, true, true, true] rfl rfl (any_of HT_.out (by kernel_rfl)) (fun _ _ _ h => h) (Or.inl ⟨by rfl, ?_⟩) ?_ ?_
                rotate_left
                · intro w'
                  go_simp
                  with_reducible rfl
                rotate_left
                · simp only [Act.put, List.setIfInBounds_toArray, List.set_cons_zero, List.set_cons_succ, i64_w, i32_w]
                  rfl
                refine done_ (done_of HT_.out (by kernel_rfl)) ?_
                try go_wp2
                go_roundg k1
                case measure => have := HK1.out; omega
                case rel => exact ⟨(wrap64 (x5_1 + 1)), (by first | rfl | (simp; done) | (simp [*]; done)), H', ⟨by have := HK1.out; omega⟩, ⟨by repeat (first | (with_reducible first | exact HB.out | apply below_alloc | apply pw_below_drewN | apply below_drew1) | exact HB.out)⟩⟩
              · replace c8 := Bool.eq_false_iff.mpr c8
                subst c8
                have H1 : (some false) = some r := by rw [if_neg (show ¬ (false = true) by decide)] at H; exact H
                clear H
                have H := H1
                clear H1
                obtain rfl := Option.some.inj H
                try go_wp2
                have n0_ := Aside0.mk (below_drew1 HB.out)
                clear HB
                have HB := n0_
                clear n0_
                have p270 : 0 ≤ (x5_1 : Int) := of_decide_eq_true (by first | (with_reducible assumption) | assumption)
                have q270 : x5_1 < (l0.length : Int) := of_decide_eq_true (by first | (with_reducible assumption) | assumption)
                obtain ⟨ad270, e270, hx270_0, hx270_1, hx270_2⟩ := at_T70 HR0.out x5_1 p270 q270
                have hw270_2 := hx270_2
                have hw270_1 := hx270_1
                have hw270_0 := hx270_0
                cases e270
                replace hx270_0 := (HB.out.cell (World.block_lt_of_cell? w _ hx270_0)).trans hx270_0
                replace hx270_1 := (HB.out.cell (World.block_lt_of_cell? w _ hx270_1)).trans hx270_1
                replace hx270_2 := (HB.out.cell (World.block_lt_of_cell? w _ hx270_2)).trans hx270_2
                replace p270 := eq_true p270
                replace q270 := eq_true q270
                have p271 : 0 ≤ (x5_1 : Int) := of_decide_eq_true (by first | (with_reducible assumption) | assumption)
                have q271 : x5_1 < (l1.length : Int) := of_decide_eq_true (by first | (with_reducible assumption) | assumption)
                obtain ⟨ad271, e271, hx271_0, hx271_1, hx271_2⟩ := at_T70 HR1.out x5_1 p271 q271
                have hw271_2 := hx271_2
                have hw271_1 := hx271_1
                have hw271_0 := hx271_0
                cases e271
                replace hx271_0 := (HB.out.cell (World.block_lt_of_cell? w _ hx271_0)).trans hx271_0
                replace hx271_1 := (HB.out.cell (World.block_lt_of_cell? w _ hx271_1)).trans hx271_1
                replace hx271_2 := (HB.out.cell (World.block_lt_of_cell? w _ hx271_2)).trans hx271_2
                replace p271 := eq_true p271
                replace q271 := eq_true q271
                refine start_ (n := 10) (S := fun w' => w'.cell? (ad270.add ((x5_1).toNat * 3)) = some (.int .i64 ((rd_T70 l0 x5_1).f0)) ∧ w'.cell? ⟨(ad270.add ((x5_1).toNat * 3)).block, (ad270.add ((x5_1).toNat * 3)).off + 1, none⟩ = some (.int .i64 ((rd_T70 l0 x5_1).f1)) ∧ w'.cell? ⟨(ad270.add ((x5_1).toNat * 3)).block, (ad270.add ((x5_1).toNat * 3)).off + 2, none⟩ = some (.bool ((rd_T70 l0 x5_1).f2)) ∧ w'.cell? (ad271.add ((x5_1).toNat * 3)) = some (.int .i64 ((rd_T70 l1 x5_1).f0)) ∧ w'.cell? ⟨(ad271.add ((x5_1).toNat * 3)).block, (ad271.add ((x5_1).toNat * 3)).off + 1, none⟩ = some (.int .i64 ((rd_T70 l1 x5_1).f1)) ∧ w'.cell? ⟨(ad271.add ((x5_1).toNat * 3)).block, (ad271.add ((x5_1).toNat * 3)).off + 2, none⟩ = some (.bool ((rd_T70 l1 x5_1).f2))) (ds := []) #[false, false, false, false, false, false, false, false, false, false] (by kernel_rfl) rfl rfl ⟨((HB.out.cell (World.block_lt_of_cell? w _ hw270_0)).trans hw270_0), ((HB.out.cell (World.block_lt_of_cell? w _ hw270_1)).trans hw270_1), ((HB.out.cell (World.block_lt_of_cell? w _ hw270_2)).trans hw270_2), ((HB.out.cell (World.block_lt_of_cell? w _ hw271_0)).trans hw271_0), ((HB.out.cell (World.block_lt_of_cell? w _ hw271_1)).trans hw271_1), ((HB.out.cell (World.block_lt_of_cell? w _ hw271_2)).trans hw271_2)⟩ (fun hHeld => ?_); refine with_tabW laws_eqRegionS.tab6 laws_eqRegionS.bits6 (fun HT_ HW_ => ?_)
                generalize wr.drew = w11 at HB hx270_0 hx270_1 hx270_2 hx271_0 hx271_1 hx271_2 hHeld ⊢
                refine pure_ (i := 0) (N := some 17) (v := ?_) (a' := ?_) #[true, false, false, false, false, false, false, false, false, false] rfl rfl (any_of HT_.out (by kernel_rfl)) (fun _ _ _ h => h) (Or.inl ⟨by rfl, ?_⟩) ?_ ?_
                rotate_left
                · intro w'
                  go_simp
                  with_reducible rfl
                rotate_left
                · simp only [Act.put, List.setIfInBounds_toArray, List.set_cons_zero, List.set_cons_succ, i64_w, i32_w]
                  rfl
                refine pure_ (i := 1) (N := some 18) (v := ?_) (a' := ?_) #[true, true, false, false, false, false, false, false, false, false] rfl rfl (any_of HT_.out (by kernel_rfl)) (fun _ _ _ h => h) (Or.inl ⟨by rfl, ?_⟩) ?_ ?_
                rotate_left
                · intro w'
                  go_simp
                  with_reducible rfl
                rotate_left
                · simp only [Act.put, List.setIfInBounds_toArray, List.set_cons_zero, List.set_cons_succ, i64_w, i32_w]
                  rfl
                refine pure_ (i := 2) (N := some 19) (v := ?_) (a' := ?_) #[true, true, true, false, false, false, false, false, false, false] rfl rfl (any_of HT_.out (by kernel_rfl)) (fun _ _ _ h => h) (Or.inl ⟨by rfl, ?_⟩) ?_ ?_
                rotate_left
                · intro w'
                  go_simp
                  with_reducible rfl
                rotate_left
                · simp only [Act.put, List.setIfInBounds_toArray, List.set_cons_zero, List.set_cons_succ, i64_w, i32_w]
                  rfl
                refine pure_ (i := 4) (N := some 21) (v := ?_) (a' := ?_) #[true, true, true, false, true, false, false, false, false, false] rfl rfl (any_of HT_.out (by kernel_rfl)) (fun _ _ _ h => h) (Or.inl ⟨by rfl, ?_⟩) ?_ ?_
                rotate_left
                · intro w'
                  go_simp
                  with_reducible rfl
                rotate_left
                · simp only [Act.put, List.setIfInBounds_toArray, List.set_cons_zero, List.set_cons_succ, i64_w, i32_w]
                  rfl
                refine pure_ (i := 5) (N := some 22) (v := ?_) (a' := ?_) #[true, true, true, false, true, true, false, false, false, false] rfl rfl (any_of HT_.out (by kernel_rfl)) (fun _ _ _ h => h) (Or.inl ⟨by rfl, ?_⟩) ?_ ?_
                rotate_left
                · intro w'
                  go_simp
                  with_reducible rfl
                rotate_left
                · simp only [Act.put, List.setIfInBounds_toArray, List.set_cons_zero, List.set_cons_succ, i64_w, i32_w]
                  rfl
                refine pure_ (i := 6) (N := some 23) (v := ?_) (a' := ?_) #[true, true, true, false, true, true, true, false, false, false] rfl rfl (any_of HT_.out (by kernel_rfl)) (fun _ _ _ h => h) (Or.inl ⟨by rfl, ?_⟩) ?_ ?_
                rotate_left
                · intro w'
                  go_simp
                  with_reducible rfl
                rotate_left
                · simp only [Act.put, List.setIfInBounds_toArray, List.set_cons_zero, List.set_cons_succ, i64_w, i32_w]
                  rfl
                refine take_ (i := 3) (N := some 20) (v := ?_) (a' := ?_) #[true, true, true, true, true, true, true, false, false, false] rfl rfl (take_ofW HT_.out HW_.out (by kernel_rfl)) (fun _ _ _ h => h) (Or.inl ⟨by rfl, ?_⟩) hHeld ?_ ?_
                rotate_left
                · rintro w' ⟨s0, s1, s2, s3, s4, s5⟩
                  go_simp
                  with_reducible rfl
                rotate_left
                · simp only [Act.put, List.setIfInBounds_toArray, List.set_cons_zero, List.set_cons_succ, i64_w, i32_w]
                  rfl
                refine take_ (i := 7) (N := some 24) (v := ?_) (a' := ?_) #[true, true, true, true, true, true, true, true, false, false] rfl rfl (take_ofW HT_.out HW_.out (by kernel_rfl)) (fun _ _ _ h => h) (Or.inl ⟨by rfl, ?_⟩) hHeld ?_ ?_
                rotate_left
                · rintro w' ⟨s0, s1, s2, s3, s4, s5⟩
                  go_simp
                  with_reducible rfl
                rotate_left
                · simp only [Act.put, List.setIfInBounds_toArray, List.set_cons_zero, List.set_cons_succ, i64_w, i32_w]
                  rfl
                refine one_ (i := 8) (N := some 25) #[true, true, true, true, true, true, true, true, true, false] rfl rfl (one_of HT_.out (by kernel_rfl)) (by decide) (fun K hK => ?_)
                refine goes_ Try.func85 (by kernel_rfl) rfl #[.agg #[.int .i64 ((rd_T70 l0 x5_1).f0), .int .i64 ((rd_T70 l0 x5_1).f1), .bool ((rd_T70 l0 x5_1).f2)], .agg #[.int .i64 ((rd_T70 l1 x5_1).f0), .int .i64 ((rd_T70 l1 x5_1).f1), .bool ((rd_T70 l1 x5_1).f2)]] (by rfl) rfl rfl (by (try simp only [List.map_toArray, List.map_cons, List.map_nil]); first | done | rfl | (simp only [List.length_drop, List.length_take]; rfl)) ?_
                with_reducible refine (laws_eqRegion.calls ((rd_T70 l0 x5_1).f0) ((rd_T70 l0 x5_1).f1) ((rd_T70 l0 x5_1).f2) ((rd_T70 l1 x5_1).f0) ((rd_T70 l1 x5_1).f1) ((rd_T70 l1 x5_1).f2) false _ A7.out).mono ?_
                rintro e w12 ⟨rfl, hb⟩
                refine ⟨_, rfl, ?_⟩
                have n0_ := Aside0.mk (below_step (by repeat (first | (with_reducible first | exact HB.out | apply below_alloc | apply pw_below_drewN | apply below_drew1) | exact HB.out)) hb)
                clear HB
                have HB := n0_
                clear n0_
                (try clear hb)
                (try clear hb2)
                (try clear hk)
                (try clear hi)
                refine hK.out _ _ ⟨((HB.out.cell (World.block_lt_of_cell? w _ hw270_0)).trans hw270_0), ((HB.out.cell (World.block_lt_of_cell? w _ hw270_1)).trans hw270_1), ((HB.out.cell (World.block_lt_of_cell? w _ hw270_2)).trans hw270_2), ((HB.out.cell (World.block_lt_of_cell? w _ hw271_0)).trans hw271_0), ((HB.out.cell (World.block_lt_of_cell? w _ hw271_1)).trans hw271_1), ((HB.out.cell (World.block_lt_of_cell? w _ hw271_2)).trans hw271_2)⟩ (fun hHeld => ?_)
                clear hK K
                refine norm_ (a' := ?_) ?_ ?_
                rotate_left
                · show Act.put _ (some 25) _ = _
                  simp only [Act.put, List.setIfInBounds_toArray, List.set_cons_zero, List.set_cons_succ, i64_w, i32_w]
                  rfl
                refine pure_ (i := 9) (N := some 26) (v := ?_) (a' := ?_) #[true, true, true, true, true, true, true, true, true, true] rfl rfl (any_of HT_.out (by kernel_rfl)) (fun _ _ _ h => h) (Or.inl ⟨by rfl, ?_⟩) ?_ ?_
                rotate_left
                · intro w'
                  go_simp
                  with_reducible rfl
                rotate_left
                · simp only [Act.put, List.setIfInBounds_toArray, List.set_cons_zero, List.set_cons_succ, i64_w, i32_w]
                  rfl
                refine done_ (done_of HT_.out (by kernel_rfl)) ?_
                try go_wp2
                go_ret
                exact ⟨by first | rfl | (simp [errW_none, errW_some] <;> rfl) | (simp [*, errW_none, errW_some] <;> rfl), by repeat (first | (with_reducible first | exact HB.out | apply below_alloc | apply pw_below_drewN | apply below_drew1) | exact HB.out)⟩
            · rw [if_neg c6] at H
              exact absurd H (by simp)
          · rw [if_neg c5] at H
            exact absurd H (by simp)
        · rw [if_neg c4] at H
          have c4b0 : decide (x5_1 < (l0.length : Int)) = false := decide_eq_false c4
          clear c4
          obtain rfl := Option.some.inj H
          go_wp2
          go_ret
          exact ⟨by first | rfl | (simp [errW_none, errW_some] <;> rfl) | (simp [*, errW_none, errW_some] <;> rfl), by repeat (first | (with_reducible first | exact HB.out | apply below_alloc | apply pw_below_drewN | apply below_drew1) | exact HB.out)⟩
  · rw [if_neg c3] at H
    have c3b0 : ((l0.length : Int) == (l1.length : Int)) = false := beq_eq_false_iff_ne.mpr c3
    have c3b1 : ((l0.length : Int) != (l1.length : Int)) = true := bne_iff_ne.mpr c3
    have c3b2 : (l0.length == l1.length) = false := by first | simpa using c3 | (simp at c3 ⊢; omega)
    obtain rfl := Option.some.inj H
    go_enter Try.func27, Try.ntmps27
    go_wp2
    go_ret
    exact ⟨by first | rfl | (simp [errW_none, errW_some] <;> rfl) | (simp [*, errW_none, errW_some] <;> rfl), by repeat (first | (with_reducible first | exact HB.out | apply below_alloc | apply pw_below_drewN | apply below_drew1) | exact HB.out)⟩

end Go.Proofs.Ytdpejnckojhgjaa.P
end
