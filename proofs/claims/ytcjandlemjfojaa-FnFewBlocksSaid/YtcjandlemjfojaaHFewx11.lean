-- Written by a program for this claim (the functions that the statement reaches, and that the program's code comes to them).
import Derived.Test.YtcjandlemjfojaaHFewx0
import Derived.Test.YtcjandlemjfojaaHFewx5
import Derived.Test.YtcjandlemjfojaaHFewx7
import Derived.Test.YtcjandlemjfojaaHFewx8
import Derived.Test.YtcjandlemjfojaaHFewx9
import Derived.Test.YtcjandlemjfojaaHFewx10
namespace Go.Proofs.Ytcjandlemjfojaa.HFew
open Go.RowKit Go.Proofs.YtcjandlemjfojaaW.PrintWords Go.Proofs.YtcjandlemjfojaaW.PrintLast Go.Proofs.YtcjandlemjfojaaW.PrintMore
attribute [local go_sem] max2_int min2_int max_two min_two max_three min_three max_four min_four   -- for this text's walks alone
set_option linter.unusedVariables false
set_option linter.unusedSimpArgs false

/-! ### laws_FnFewBlocks: function 4 -/
mutual
def laws_FnFewBlocks.j0 : Nat → Int → List (S39) → Int → Int → Int → List (S39) → List (S39) → Int → Int → Int → Int → Bool → Option (Bool)
  | 0, _, _, _, _, _, _, _, _, _, _, _, _ => none
  | k + 1, x3, x4, x5, x8, x12, x15, x17, x18, x19, x20, x22, x149 => if x149 = true then (some false) else (laws_FnFewBlocks.l0 k x3 x4 x5 x8 x12 x15 x17 x18 x19 x20 x22 0)
def laws_FnFewBlocks.l0 : Nat → Int → List (S39) → Int → Int → Int → List (S39) → List (S39) → Int → Int → Int → Int → Int → Option (Bool)
  | 0, _, _, _, _, _, _, _, _, _, _, _, _ => none
  | k + 1, x3, x4, x5, x8, x12, x15, x17, x18, x19, x20, x22, x26 => if x26 < (x15.length : Int) then (if 0 ≤ x26 then (if x26 ≤ (wrap64 (x26 + 1)) then (if (wrap64 (x26 + 1)) ≤ (x15.length : Int) then ((impl_AdvantageOf.f k ((x15.take ((wrap64 (x26 + 1)) : Int).toNat).drop (x26 : Int).toNat)).bind fun bt340 => (if bt340.2 = 0 then (if bt340.1 = x12 then (laws_FnFewBlocks.l0 k x3 x4 x5 x8 x12 x15 x17 x18 x19 x20 x22 (wrap64 (x26 + 1))) else (some false)) else (some false))) else (none)) else (none)) else (none)) else (if x19 = 0 then (if x18 < (x17.length : Int) then (laws_FnFewBlocks.j2 k x3 x4 x5 x8 x17 x20 true) else (if x18 > (wrap64 (2 * (x17.length : Int))) then (laws_FnFewBlocks.j2 k x3 x4 x5 x8 x17 x20 true) else (laws_FnFewBlocks.j2 k x3 x4 x5 x8 x17 x20 (decide (x22 < x18))))) else (laws_FnFewBlocks.j2 k x3 x4 x5 x8 x17 x20 false))
def laws_FnFewBlocks.j2 : Nat → Int → List (S39) → Int → Int → List (S39) → Int → Bool → Option (Bool)
  | 0, _, _, _, _, _, _, _ => none
  | k + 1, x3, x4, x5, x8, x17, x20, x191 => if x191 = true then (some false) else ((spec_AdvantageOf.f k x17).bind fun bt342 => (if bt342.2 = 0 then (laws_FnFewBlocks.j3 k x3 x4 x5 x8 x20 bt342.1 (decide (bt342.1 ≤ 5000))) else (laws_FnFewBlocks.j3 k x3 x4 x5 x8 x20 bt342.1 false)))
def laws_FnFewBlocks.j3 : Nat → Int → List (S39) → Int → Int → Int → Int → Bool → Option (Bool)
  | 0, _, _, _, _, _, _, _ => none
  | k + 1, x3, x4, x5, x8, x20, x29, x202 => if x202 = true then ((impl_FewestBlocks.f k x29).bind fun bt344 => (if bt344.2 = 0 then (if bt344.1 > x20 then (some false) else (laws_FnFewBlocks.j4 k x3 x4 x5 x8)) else (some false))) else (laws_FnFewBlocks.j4 k x3 x4 x5 x8)
def laws_FnFewBlocks.j4 : Nat → Int → List (S39) → Int → Int → Option (Bool)
  | 0, _, _, _, _ => none
  | k + 1, x3, x4, x5, x8 => if x5 = 0 then ((impl_AdvantageOf.f k x4).bind fun bt346 => ((impl_BlocksOf.f k x4).bind fun bt348 => (if bt346.2 = 0 then (if bt346.1 = x3 then (if bt348.2 = 0 then (some (bt348.1 == x8)) else (some false)) else (some false)) else (some false)))) else (some true)
end
def laws_FnFewBlocks.f (k : Nat) (l0 : List Int) : Option (Bool) := (laws_f6big.f l0).bind fun t300 => (if t300 = true then (some true) else ((spec_DrawBestTackle.f k l0).bind fun t301 => ((impl_BestTackle.f k t301).bind fun bt302 => ((spec_BestTackle.f k t301).bind fun bt306 => ((impl_FewestBlocks.f k t301).bind fun bt310 => ((spec_FewestBlocks.f k t301).bind fun bt312 => ((spec_DrawPurchasesFor.f k l0).bind fun t314 => ((impl_PurchasesFor.f k t314).bind fun bt315 => ((spec_PurchasesFor.f k t314).bind fun bt319 => ((spec_DrawBlocksOf.f k l0).bind fun t323 => ((impl_BlocksOf.f k t323).bind fun bt326 => ((spec_BlocksOf.f k t323).bind fun bt328 => ((impl_SheavesOf.f k t323).bind fun bt330 => ((spec_SheavesOf.f k t323).bind fun bt332 => (if bt302.2 = bt306.2 then ((spec_SameTackle.f k bt302.1 bt306.1).bind fun t334 => (if t334 = true then (if bt310.2 = bt312.2 then (if bt310.1 = bt312.1 then (if bt315.2 = bt319.2 then ((spec_SameTackle.f k bt315.1 bt319.1).bind fun t335 => (if t335 = true then (if bt326.2 = bt328.2 then (if bt326.1 = bt328.1 then (if bt330.2 = bt332.2 then (if bt330.1 = bt332.1 then (laws_FnFewBlocks.j0 k t301 bt302.1 bt302.2 bt310.1 t314 bt319.1 t323 bt326.1 bt326.2 bt328.1 bt330.1 (bt310.2 != bt302.2)) else (laws_FnFewBlocks.j0 k t301 bt302.1 bt302.2 bt310.1 t314 bt319.1 t323 bt326.1 bt326.2 bt328.1 bt330.1 true)) else (laws_FnFewBlocks.j0 k t301 bt302.1 bt302.2 bt310.1 t314 bt319.1 t323 bt326.1 bt326.2 bt328.1 bt330.1 true)) else (laws_FnFewBlocks.j0 k t301 bt302.1 bt302.2 bt310.1 t314 bt319.1 t323 bt326.1 bt326.2 bt328.1 bt330.1 true)) else (laws_FnFewBlocks.j0 k t301 bt302.1 bt302.2 bt310.1 t314 bt319.1 t323 bt326.1 bt326.2 bt328.1 bt330.1 true)) else (laws_FnFewBlocks.j0 k t301 bt302.1 bt302.2 bt310.1 t314 bt319.1 t323 bt326.1 bt326.2 bt328.1 bt330.1 true))) else (laws_FnFewBlocks.j0 k t301 bt302.1 bt302.2 bt310.1 t314 bt319.1 t323 bt326.1 bt326.2 bt328.1 bt330.1 true)) else (laws_FnFewBlocks.j0 k t301 bt302.1 bt302.2 bt310.1 t314 bt319.1 t323 bt326.1 bt326.2 bt328.1 bt330.1 true)) else (laws_FnFewBlocks.j0 k t301 bt302.1 bt302.2 bt310.1 t314 bt319.1 t323 bt326.1 bt326.2 bt328.1 bt330.1 true)) else (laws_FnFewBlocks.j0 k t301 bt302.1 bt302.2 bt310.1 t314 bt319.1 t323 bt326.1 bt326.2 bt328.1 bt330.1 true))) else (laws_FnFewBlocks.j0 k t301 bt302.1 bt302.2 bt310.1 t314 bt319.1 t323 bt326.1 bt326.2 bt328.1 bt330.1 true))))))))))))))))
theorem laws_FnFewBlocks.mono_l : ∀ k, (∀ y0 y1 y2 y3 y4 y5 y6 y7 y8 y9 y10 y11, LeO (laws_FnFewBlocks.j0 k y0 y1 y2 y3 y4 y5 y6 y7 y8 y9 y10 y11) (laws_FnFewBlocks.j0 (k + 1) y0 y1 y2 y3 y4 y5 y6 y7 y8 y9 y10 y11)) ∧ (∀ y0 y1 y2 y3 y4 y5 y6 y7 y8 y9 y10 y11, LeO (laws_FnFewBlocks.l0 k y0 y1 y2 y3 y4 y5 y6 y7 y8 y9 y10 y11) (laws_FnFewBlocks.l0 (k + 1) y0 y1 y2 y3 y4 y5 y6 y7 y8 y9 y10 y11)) ∧ (∀ y0 y1 y2 y3 y4 y5 y6, LeO (laws_FnFewBlocks.j2 k y0 y1 y2 y3 y4 y5 y6) (laws_FnFewBlocks.j2 (k + 1) y0 y1 y2 y3 y4 y5 y6)) ∧ (∀ y0 y1 y2 y3 y4 y5 y6, LeO (laws_FnFewBlocks.j3 k y0 y1 y2 y3 y4 y5 y6) (laws_FnFewBlocks.j3 (k + 1) y0 y1 y2 y3 y4 y5 y6)) ∧ (∀ y0 y1 y2 y3, LeO (laws_FnFewBlocks.j4 k y0 y1 y2 y3) (laws_FnFewBlocks.j4 (k + 1) y0 y1 y2 y3))
  | 0 => ⟨fun _ _ _ _ _ _ _ _ _ _ _ _ r h => by simp [laws_FnFewBlocks.j0] at h, fun _ _ _ _ _ _ _ _ _ _ _ _ r h => by simp [laws_FnFewBlocks.l0] at h, fun _ _ _ _ _ _ _ r h => by simp [laws_FnFewBlocks.j2] at h, fun _ _ _ _ _ _ _ r h => by simp [laws_FnFewBlocks.j3] at h, fun _ _ _ _ r h => by simp [laws_FnFewBlocks.j4] at h⟩
  | k + 1 => by
    obtain ⟨ih0, ih1, ih2, ih3, ih4⟩ := laws_FnFewBlocks.mono_l k
    refine ⟨?_, ?_, ?_, ?_, ?_⟩
    · intro y0 y1 y2 y3 y4 y5 y6 y7 y8 y9 y10 y11
      unfold laws_FnFewBlocks.j0
      repeat' first
      | (with_reducible exact ih0 _ _ _ _ _ _ _ _ _ _ _ _)
      | (with_reducible exact ih1 _ _ _ _ _ _ _ _ _ _ _ _)
      | (with_reducible exact ih2 _ _ _ _ _ _ _)
      | (with_reducible exact ih3 _ _ _ _ _ _ _)
      | (with_reducible exact ih4 _ _ _ _)
      | (with_reducible exact impl_AdvantageOf.mono _ _)
      | (with_reducible exact impl_BestTackle.mono _ _)
      | (with_reducible exact impl_BlocksOf.mono _ _)
      | (with_reducible exact impl_FewestBlocks.mono _ _)
      | (with_reducible exact impl_PurchasesFor.mono _ _)
      | (with_reducible exact impl_SheavesOf.mono _ _)
      | (with_reducible exact spec_AdvantageOf.mono _ _)
      | (with_reducible exact spec_BestTackle.mono _ _)
      | (with_reducible exact spec_BlocksOf.mono _ _)
      | (with_reducible exact spec_DrawBestTackle.mono _ _)
      | (with_reducible exact spec_DrawBlocksOf.mono _ _)
      | (with_reducible exact spec_DrawPurchasesFor.mono _ _)
      | (with_reducible exact spec_FewestBlocks.mono _ _)
      | (with_reducible exact spec_PurchasesFor.mono _ _)
      | (with_reducible exact spec_SameTackle.mono _ _ _)
      | (with_reducible exact spec_SheavesOf.mono _ _)
      | (with_reducible exact LeO.refl _)
      | (with_reducible exact LeO.none _)
      | (with_reducible refine LeO.ite ?_ ?_)
      | (with_reducible refine LeO.bind ?_ (fun _ => ?_))
      | exact ih0 _ _ _ _ _ _ _ _ _ _ _ _
      | exact ih1 _ _ _ _ _ _ _ _ _ _ _ _
      | exact ih2 _ _ _ _ _ _ _
      | exact ih3 _ _ _ _ _ _ _
      | exact ih4 _ _ _ _
      | exact impl_AdvantageOf.mono _ _
      | exact impl_BestTackle.mono _ _
      | exact impl_BlocksOf.mono _ _
      | exact impl_FewestBlocks.mono _ _
      | exact impl_PurchasesFor.mono _ _
      | exact impl_SheavesOf.mono _ _
      | exact spec_AdvantageOf.mono _ _
      | exact spec_BestTackle.mono _ _
      | exact spec_BlocksOf.mono _ _
      | exact spec_DrawBestTackle.mono _ _
      | exact spec_DrawBlocksOf.mono _ _
      | exact spec_DrawPurchasesFor.mono _ _
      | exact spec_FewestBlocks.mono _ _
      | exact spec_PurchasesFor.mono _ _
      | exact spec_SameTackle.mono _ _ _
      | exact spec_SheavesOf.mono _ _
      | exact LeO.none _
      | refine LeO.ite ?_ ?_
      | refine LeO.bind ?_ (fun _ => ?_)
    · intro y0 y1 y2 y3 y4 y5 y6 y7 y8 y9 y10 y11
      unfold laws_FnFewBlocks.l0
      repeat' first
      | (with_reducible exact ih0 _ _ _ _ _ _ _ _ _ _ _ _)
      | (with_reducible exact ih1 _ _ _ _ _ _ _ _ _ _ _ _)
      | (with_reducible exact ih2 _ _ _ _ _ _ _)
      | (with_reducible exact ih3 _ _ _ _ _ _ _)
      | (with_reducible exact ih4 _ _ _ _)
      | (with_reducible exact impl_AdvantageOf.mono _ _)
      | (with_reducible exact impl_BestTackle.mono _ _)
      | (with_reducible exact impl_BlocksOf.mono _ _)
      | (with_reducible exact impl_FewestBlocks.mono _ _)
      | (with_reducible exact impl_PurchasesFor.mono _ _)
      | (with_reducible exact impl_SheavesOf.mono _ _)
      | (with_reducible exact spec_AdvantageOf.mono _ _)
      | (with_reducible exact spec_BestTackle.mono _ _)
      | (with_reducible exact spec_BlocksOf.mono _ _)
      | (with_reducible exact spec_DrawBestTackle.mono _ _)
      | (with_reducible exact spec_DrawBlocksOf.mono _ _)
      | (with_reducible exact spec_DrawPurchasesFor.mono _ _)
      | (with_reducible exact spec_FewestBlocks.mono _ _)
      | (with_reducible exact spec_PurchasesFor.mono _ _)
      | (with_reducible exact spec_SameTackle.mono _ _ _)
      | (with_reducible exact spec_SheavesOf.mono _ _)
      | (with_reducible exact LeO.refl _)
      | (with_reducible exact LeO.none _)
      | (with_reducible refine LeO.ite ?_ ?_)
      | (with_reducible refine LeO.bind ?_ (fun _ => ?_))
      | exact ih0 _ _ _ _ _ _ _ _ _ _ _ _
      | exact ih1 _ _ _ _ _ _ _ _ _ _ _ _
      | exact ih2 _ _ _ _ _ _ _
      | exact ih3 _ _ _ _ _ _ _
      | exact ih4 _ _ _ _
      | exact impl_AdvantageOf.mono _ _
      | exact impl_BestTackle.mono _ _
      | exact impl_BlocksOf.mono _ _
      | exact impl_FewestBlocks.mono _ _
      | exact impl_PurchasesFor.mono _ _
      | exact impl_SheavesOf.mono _ _
      | exact spec_AdvantageOf.mono _ _
      | exact spec_BestTackle.mono _ _
      | exact spec_BlocksOf.mono _ _
      | exact spec_DrawBestTackle.mono _ _
      | exact spec_DrawBlocksOf.mono _ _
      | exact spec_DrawPurchasesFor.mono _ _
      | exact spec_FewestBlocks.mono _ _
      | exact spec_PurchasesFor.mono _ _
      | exact spec_SameTackle.mono _ _ _
      | exact spec_SheavesOf.mono _ _
      | exact LeO.none _
      | refine LeO.ite ?_ ?_
      | refine LeO.bind ?_ (fun _ => ?_)
    · intro y0 y1 y2 y3 y4 y5 y6
      unfold laws_FnFewBlocks.j2
      repeat' first
      | (with_reducible exact ih0 _ _ _ _ _ _ _ _ _ _ _ _)
      | (with_reducible exact ih1 _ _ _ _ _ _ _ _ _ _ _ _)
      | (with_reducible exact ih2 _ _ _ _ _ _ _)
      | (with_reducible exact ih3 _ _ _ _ _ _ _)
      | (with_reducible exact ih4 _ _ _ _)
      | (with_reducible exact impl_AdvantageOf.mono _ _)
      | (with_reducible exact impl_BestTackle.mono _ _)
      | (with_reducible exact impl_BlocksOf.mono _ _)
      | (with_reducible exact impl_FewestBlocks.mono _ _)
      | (with_reducible exact impl_PurchasesFor.mono _ _)
      | (with_reducible exact impl_SheavesOf.mono _ _)
      | (with_reducible exact spec_AdvantageOf.mono _ _)
      | (with_reducible exact spec_BestTackle.mono _ _)
      | (with_reducible exact spec_BlocksOf.mono _ _)
      | (with_reducible exact spec_DrawBestTackle.mono _ _)
      | (with_reducible exact spec_DrawBlocksOf.mono _ _)
      | (with_reducible exact spec_DrawPurchasesFor.mono _ _)
      | (with_reducible exact spec_FewestBlocks.mono _ _)
      | (with_reducible exact spec_PurchasesFor.mono _ _)
      | (with_reducible exact spec_SameTackle.mono _ _ _)
      | (with_reducible exact spec_SheavesOf.mono _ _)
      | (with_reducible exact LeO.refl _)
      | (with_reducible exact LeO.none _)
      | (with_reducible refine LeO.ite ?_ ?_)
      | (with_reducible refine LeO.bind ?_ (fun _ => ?_))
      | exact ih0 _ _ _ _ _ _ _ _ _ _ _ _
      | exact ih1 _ _ _ _ _ _ _ _ _ _ _ _
      | exact ih2 _ _ _ _ _ _ _
      | exact ih3 _ _ _ _ _ _ _
      | exact ih4 _ _ _ _
      | exact impl_AdvantageOf.mono _ _
      | exact impl_BestTackle.mono _ _
      | exact impl_BlocksOf.mono _ _
      | exact impl_FewestBlocks.mono _ _
      | exact impl_PurchasesFor.mono _ _
      | exact impl_SheavesOf.mono _ _
      | exact spec_AdvantageOf.mono _ _
      | exact spec_BestTackle.mono _ _
      | exact spec_BlocksOf.mono _ _
      | exact spec_DrawBestTackle.mono _ _
      | exact spec_DrawBlocksOf.mono _ _
      | exact spec_DrawPurchasesFor.mono _ _
      | exact spec_FewestBlocks.mono _ _
      | exact spec_PurchasesFor.mono _ _
      | exact spec_SameTackle.mono _ _ _
      | exact spec_SheavesOf.mono _ _
      | exact LeO.none _
      | refine LeO.ite ?_ ?_
      | refine LeO.bind ?_ (fun _ => ?_)
    · intro y0 y1 y2 y3 y4 y5 y6
      unfold laws_FnFewBlocks.j3
      repeat' first
      | (with_reducible exact ih0 _ _ _ _ _ _ _ _ _ _ _ _)
      | (with_reducible exact ih1 _ _ _ _ _ _ _ _ _ _ _ _)
      | (with_reducible exact ih2 _ _ _ _ _ _ _)
      | (with_reducible exact ih3 _ _ _ _ _ _ _)
      | (with_reducible exact ih4 _ _ _ _)
      | (with_reducible exact impl_AdvantageOf.mono _ _)
      | (with_reducible exact impl_BestTackle.mono _ _)
      | (with_reducible exact impl_BlocksOf.mono _ _)
      | (with_reducible exact impl_FewestBlocks.mono _ _)
      | (with_reducible exact impl_PurchasesFor.mono _ _)
      | (with_reducible exact impl_SheavesOf.mono _ _)
      | (with_reducible exact spec_AdvantageOf.mono _ _)
      | (with_reducible exact spec_BestTackle.mono _ _)
      | (with_reducible exact spec_BlocksOf.mono _ _)
      | (with_reducible exact spec_DrawBestTackle.mono _ _)
      | (with_reducible exact spec_DrawBlocksOf.mono _ _)
      | (with_reducible exact spec_DrawPurchasesFor.mono _ _)
      | (with_reducible exact spec_FewestBlocks.mono _ _)
      | (with_reducible exact spec_PurchasesFor.mono _ _)
      | (with_reducible exact spec_SameTackle.mono _ _ _)
      | (with_reducible exact spec_SheavesOf.mono _ _)
      | (with_reducible exact LeO.refl _)
      | (with_reducible exact LeO.none _)
      | (with_reducible refine LeO.ite ?_ ?_)
      | (with_reducible refine LeO.bind ?_ (fun _ => ?_))
      | exact ih0 _ _ _ _ _ _ _ _ _ _ _ _
      | exact ih1 _ _ _ _ _ _ _ _ _ _ _ _
      | exact ih2 _ _ _ _ _ _ _
      | exact ih3 _ _ _ _ _ _ _
      | exact ih4 _ _ _ _
      | exact impl_AdvantageOf.mono _ _
      | exact impl_BestTackle.mono _ _
      | exact impl_BlocksOf.mono _ _
      | exact impl_FewestBlocks.mono _ _
      | exact impl_PurchasesFor.mono _ _
      | exact impl_SheavesOf.mono _ _
      | exact spec_AdvantageOf.mono _ _
      | exact spec_BestTackle.mono _ _
      | exact spec_BlocksOf.mono _ _
      | exact spec_DrawBestTackle.mono _ _
      | exact spec_DrawBlocksOf.mono _ _
      | exact spec_DrawPurchasesFor.mono _ _
      | exact spec_FewestBlocks.mono _ _
      | exact spec_PurchasesFor.mono _ _
      | exact spec_SameTackle.mono _ _ _
      | exact spec_SheavesOf.mono _ _
      | exact LeO.none _
      | refine LeO.ite ?_ ?_
      | refine LeO.bind ?_ (fun _ => ?_)
    · intro y0 y1 y2 y3
      unfold laws_FnFewBlocks.j4
      repeat' first
      | (with_reducible exact ih0 _ _ _ _ _ _ _ _ _ _ _ _)
      | (with_reducible exact ih1 _ _ _ _ _ _ _ _ _ _ _ _)
      | (with_reducible exact ih2 _ _ _ _ _ _ _)
      | (with_reducible exact ih3 _ _ _ _ _ _ _)
      | (with_reducible exact ih4 _ _ _ _)
      | (with_reducible exact impl_AdvantageOf.mono _ _)
      | (with_reducible exact impl_BestTackle.mono _ _)
      | (with_reducible exact impl_BlocksOf.mono _ _)
      | (with_reducible exact impl_FewestBlocks.mono _ _)
      | (with_reducible exact impl_PurchasesFor.mono _ _)
      | (with_reducible exact impl_SheavesOf.mono _ _)
      | (with_reducible exact spec_AdvantageOf.mono _ _)
      | (with_reducible exact spec_BestTackle.mono _ _)
      | (with_reducible exact spec_BlocksOf.mono _ _)
      | (with_reducible exact spec_DrawBestTackle.mono _ _)
      | (with_reducible exact spec_DrawBlocksOf.mono _ _)
      | (with_reducible exact spec_DrawPurchasesFor.mono _ _)
      | (with_reducible exact spec_FewestBlocks.mono _ _)
      | (with_reducible exact spec_PurchasesFor.mono _ _)
      | (with_reducible exact spec_SameTackle.mono _ _ _)
      | (with_reducible exact spec_SheavesOf.mono _ _)
      | (with_reducible exact LeO.refl _)
      | (with_reducible exact LeO.none _)
      | (with_reducible refine LeO.ite ?_ ?_)
      | (with_reducible refine LeO.bind ?_ (fun _ => ?_))
      | exact ih0 _ _ _ _ _ _ _ _ _ _ _ _
      | exact ih1 _ _ _ _ _ _ _ _ _ _ _ _
      | exact ih2 _ _ _ _ _ _ _
      | exact ih3 _ _ _ _ _ _ _
      | exact ih4 _ _ _ _
      | exact impl_AdvantageOf.mono _ _
      | exact impl_BestTackle.mono _ _
      | exact impl_BlocksOf.mono _ _
      | exact impl_FewestBlocks.mono _ _
      | exact impl_PurchasesFor.mono _ _
      | exact impl_SheavesOf.mono _ _
      | exact spec_AdvantageOf.mono _ _
      | exact spec_BestTackle.mono _ _
      | exact spec_BlocksOf.mono _ _
      | exact spec_DrawBestTackle.mono _ _
      | exact spec_DrawBlocksOf.mono _ _
      | exact spec_DrawPurchasesFor.mono _ _
      | exact spec_FewestBlocks.mono _ _
      | exact spec_PurchasesFor.mono _ _
      | exact spec_SameTackle.mono _ _ _
      | exact spec_SheavesOf.mono _ _
      | exact LeO.none _
      | refine LeO.ite ?_ ?_
      | refine LeO.bind ?_ (fun _ => ?_)
theorem laws_FnFewBlocks.mono : ∀ a0 k, LeO (laws_FnFewBlocks.f k a0) (laws_FnFewBlocks.f (k + 1) a0) := by
  intro a0 k
  obtain ⟨ih0, ih1, ih2, ih3, ih4⟩ := laws_FnFewBlocks.mono_l k
  unfold laws_FnFewBlocks.f
  repeat' first
      | (with_reducible exact ih0 _ _ _ _ _ _ _ _ _ _ _ _)
      | (with_reducible exact ih1 _ _ _ _ _ _ _ _ _ _ _ _)
      | (with_reducible exact ih2 _ _ _ _ _ _ _)
      | (with_reducible exact ih3 _ _ _ _ _ _ _)
      | (with_reducible exact ih4 _ _ _ _)
      | (with_reducible exact impl_AdvantageOf.mono _ _)
      | (with_reducible exact impl_BestTackle.mono _ _)
      | (with_reducible exact impl_BlocksOf.mono _ _)
      | (with_reducible exact impl_FewestBlocks.mono _ _)
      | (with_reducible exact impl_PurchasesFor.mono _ _)
      | (with_reducible exact impl_SheavesOf.mono _ _)
      | (with_reducible exact spec_AdvantageOf.mono _ _)
      | (with_reducible exact spec_BestTackle.mono _ _)
      | (with_reducible exact spec_BlocksOf.mono _ _)
      | (with_reducible exact spec_DrawBestTackle.mono _ _)
      | (with_reducible exact spec_DrawBlocksOf.mono _ _)
      | (with_reducible exact spec_DrawPurchasesFor.mono _ _)
      | (with_reducible exact spec_FewestBlocks.mono _ _)
      | (with_reducible exact spec_PurchasesFor.mono _ _)
      | (with_reducible exact spec_SameTackle.mono _ _ _)
      | (with_reducible exact spec_SheavesOf.mono _ _)
      | (with_reducible exact LeO.refl _)
      | (with_reducible exact LeO.none _)
      | (with_reducible refine LeO.ite ?_ ?_)
      | (with_reducible refine LeO.bind ?_ (fun _ => ?_))
      | exact ih0 _ _ _ _ _ _ _ _ _ _ _ _
      | exact ih1 _ _ _ _ _ _ _ _ _ _ _ _
      | exact ih2 _ _ _ _ _ _ _
      | exact ih3 _ _ _ _ _ _ _
      | exact ih4 _ _ _ _
      | exact impl_AdvantageOf.mono _ _
      | exact impl_BestTackle.mono _ _
      | exact impl_BlocksOf.mono _ _
      | exact impl_FewestBlocks.mono _ _
      | exact impl_PurchasesFor.mono _ _
      | exact impl_SheavesOf.mono _ _
      | exact spec_AdvantageOf.mono _ _
      | exact spec_BestTackle.mono _ _
      | exact spec_BlocksOf.mono _ _
      | exact spec_DrawBestTackle.mono _ _
      | exact spec_DrawBlocksOf.mono _ _
      | exact spec_DrawPurchasesFor.mono _ _
      | exact spec_FewestBlocks.mono _ _
      | exact spec_PurchasesFor.mono _ _
      | exact spec_SameTackle.mono _ _ _
      | exact spec_SheavesOf.mono _ _
      | exact LeO.none _
      | refine LeO.ite ?_ ?_
      | refine LeO.bind ?_ (fun _ => ?_)
set_option maxHeartbeats 8000000 in
set_option maxRecDepth 100000 in
theorem laws_FnFewBlocks.calls (k : Nat) (A0 : Option Addr) (c0 : Nat) (l0 : List Int) (r : Bool) (w : World) (hr0 : Kd.C (Kd.int .u8) w A0 l0.length l0) (hc0 : l0.length ≤ c0) (h : laws_FnFewBlocks.f k l0 = some r) :
    Calls Try.prog 4 #[.slice A0 l0.length c0] w fun e w' => e = .returned (.bool r) ∧ Below w.heap.size w w' := by
  have HR0 := Aside0.mk hr0
  have HC0 := Aside0.mk hc0
  clear hr0 hc0
  have HB := Aside0.mk (Below.refl w.heap.size w)
  have H : ((laws_f6big.f l0).bind fun t300 => (if t300 = true then (some true) else ((spec_DrawBestTackle.f k l0).bind fun t301 => ((impl_BestTackle.f k t301).bind fun bt302 => ((spec_BestTackle.f k t301).bind fun bt306 => ((impl_FewestBlocks.f k t301).bind fun bt310 => ((spec_FewestBlocks.f k t301).bind fun bt312 => ((spec_DrawPurchasesFor.f k l0).bind fun t314 => ((impl_PurchasesFor.f k t314).bind fun bt315 => ((spec_PurchasesFor.f k t314).bind fun bt319 => ((spec_DrawBlocksOf.f k l0).bind fun t323 => ((impl_BlocksOf.f k t323).bind fun bt326 => ((spec_BlocksOf.f k t323).bind fun bt328 => ((impl_SheavesOf.f k t323).bind fun bt330 => ((spec_SheavesOf.f k t323).bind fun bt332 => (if bt302.2 = bt306.2 then ((spec_SameTackle.f k bt302.1 bt306.1).bind fun t334 => (if t334 = true then (if bt310.2 = bt312.2 then (if bt310.1 = bt312.1 then (if bt315.2 = bt319.2 then ((spec_SameTackle.f k bt315.1 bt319.1).bind fun t335 => (if t335 = true then (if bt326.2 = bt328.2 then (if bt326.1 = bt328.1 then (if bt330.2 = bt332.2 then (if bt330.1 = bt332.1 then (laws_FnFewBlocks.j0 k t301 bt302.1 bt302.2 bt310.1 t314 bt319.1 t323 bt326.1 bt326.2 bt328.1 bt330.1 (bt310.2 != bt302.2)) else (laws_FnFewBlocks.j0 k t301 bt302.1 bt302.2 bt310.1 t314 bt319.1 t323 bt326.1 bt326.2 bt328.1 bt330.1 true)) else (laws_FnFewBlocks.j0 k t301 bt302.1 bt302.2 bt310.1 t314 bt319.1 t323 bt326.1 bt326.2 bt328.1 bt330.1 true)) else (laws_FnFewBlocks.j0 k t301 bt302.1 bt302.2 bt310.1 t314 bt319.1 t323 bt326.1 bt326.2 bt328.1 bt330.1 true)) else (laws_FnFewBlocks.j0 k t301 bt302.1 bt302.2 bt310.1 t314 bt319.1 t323 bt326.1 bt326.2 bt328.1 bt330.1 true)) else (laws_FnFewBlocks.j0 k t301 bt302.1 bt302.2 bt310.1 t314 bt319.1 t323 bt326.1 bt326.2 bt328.1 bt330.1 true))) else (laws_FnFewBlocks.j0 k t301 bt302.1 bt302.2 bt310.1 t314 bt319.1 t323 bt326.1 bt326.2 bt328.1 bt330.1 true)) else (laws_FnFewBlocks.j0 k t301 bt302.1 bt302.2 bt310.1 t314 bt319.1 t323 bt326.1 bt326.2 bt328.1 bt330.1 true)) else (laws_FnFewBlocks.j0 k t301 bt302.1 bt302.2 bt310.1 t314 bt319.1 t323 bt326.1 bt326.2 bt328.1 bt330.1 true)) else (laws_FnFewBlocks.j0 k t301 bt302.1 bt302.2 bt310.1 t314 bt319.1 t323 bt326.1 bt326.2 bt328.1 bt330.1 true))) else (laws_FnFewBlocks.j0 k t301 bt302.1 bt302.2 bt310.1 t314 bt319.1 t323 bt326.1 bt326.2 bt328.1 bt330.1 true))))))))))))))))) = some r := h
  clear h
  replace H := Option.bind_eq_some_iff.mp H
  obtain ⟨t300, A20, H⟩ := H
  replace H : (if t300 = true then (some true) else ((spec_DrawBestTackle.f k l0).bind fun t301 => ((impl_BestTackle.f k t301).bind fun bt302 => ((spec_BestTackle.f k t301).bind fun bt306 => ((impl_FewestBlocks.f k t301).bind fun bt310 => ((spec_FewestBlocks.f k t301).bind fun bt312 => ((spec_DrawPurchasesFor.f k l0).bind fun t314 => ((impl_PurchasesFor.f k t314).bind fun bt315 => ((spec_PurchasesFor.f k t314).bind fun bt319 => ((spec_DrawBlocksOf.f k l0).bind fun t323 => ((impl_BlocksOf.f k t323).bind fun bt326 => ((spec_BlocksOf.f k t323).bind fun bt328 => ((impl_SheavesOf.f k t323).bind fun bt330 => ((spec_SheavesOf.f k t323).bind fun bt332 => (if bt302.2 = bt306.2 then ((spec_SameTackle.f k bt302.1 bt306.1).bind fun t334 => (if t334 = true then (if bt310.2 = bt312.2 then (if bt310.1 = bt312.1 then (if bt315.2 = bt319.2 then ((spec_SameTackle.f k bt315.1 bt319.1).bind fun t335 => (if t335 = true then (if bt326.2 = bt328.2 then (if bt326.1 = bt328.1 then (if bt330.2 = bt332.2 then (if bt330.1 = bt332.1 then (laws_FnFewBlocks.j0 k t301 bt302.1 bt302.2 bt310.1 t314 bt319.1 t323 bt326.1 bt326.2 bt328.1 bt330.1 (bt310.2 != bt302.2)) else (laws_FnFewBlocks.j0 k t301 bt302.1 bt302.2 bt310.1 t314 bt319.1 t323 bt326.1 bt326.2 bt328.1 bt330.1 true)) else (laws_FnFewBlocks.j0 k t301 bt302.1 bt302.2 bt310.1 t314 bt319.1 t323 bt326.1 bt326.2 bt328.1 bt330.1 true)) else (laws_FnFewBlocks.j0 k t301 bt302.1 bt302.2 bt310.1 t314 bt319.1 t323 bt326.1 bt326.2 bt328.1 bt330.1 true)) else (laws_FnFewBlocks.j0 k t301 bt302.1 bt302.2 bt310.1 t314 bt319.1 t323 bt326.1 bt326.2 bt328.1 bt330.1 true)) else (laws_FnFewBlocks.j0 k t301 bt302.1 bt302.2 bt310.1 t314 bt319.1 t323 bt326.1 bt326.2 bt328.1 bt330.1 true))) else (laws_FnFewBlocks.j0 k t301 bt302.1 bt302.2 bt310.1 t314 bt319.1 t323 bt326.1 bt326.2 bt328.1 bt330.1 true)) else (laws_FnFewBlocks.j0 k t301 bt302.1 bt302.2 bt310.1 t314 bt319.1 t323 bt326.1 bt326.2 bt328.1 bt330.1 true)) else (laws_FnFewBlocks.j0 k t301 bt302.1 bt302.2 bt310.1 t314 bt319.1 t323 bt326.1 bt326.2 bt328.1 bt330.1 true)) else (laws_FnFewBlocks.j0 k t301 bt302.1 bt302.2 bt310.1 t314 bt319.1 t323 bt326.1 bt326.2 bt328.1 bt330.1 true))) else (laws_FnFewBlocks.j0 k t301 bt302.1 bt302.2 bt310.1 t314 bt319.1 t323 bt326.1 bt326.2 bt328.1 bt330.1 true)))))))))))))))) = some r := H
  have A2 := Aside0.mk A20
  clear A20
  by_cases c3 : t300 = true
  · subst c3
    have H1 : (some true) = some r := by rw [if_pos rfl] at H; exact H
    clear H
    have H := H1
    clear H1
    obtain rfl := Option.some.inj H
    go_enter Try.func4, Try.ntmps4
    go_wp2_with (first | ((with_reducible refine gate_callee (f := 10) rfl ?_); refine goesL_ (some 38) rfl rfl Try.func10 (by kernel_rfl) rfl #[.slice A0 l0.length c0] rfl (by (try simp only [List.map_toArray, List.map_cons, List.map_nil]); first | done | rfl | (simp only [List.length_drop, List.length_take]; rfl)) ?_; (with_reducible refine (laws_f6big.calls _ _ l0 true _ ?side1 ?side2 A2.out).mono ?_); (case side1 => repeat (first | exact HR0.out | (with_reducible refine Kd.C_alloc ?_ _) | (with_reducible refine Kd.C_drewN ?_ _) | (with_reducible refine Kd.C_drew ?_))); (case side2 => exact HC0.out); rintro e w' ⟨rfl, ⟨nd, rfl⟩⟩; refine ⟨_, rfl, ?_⟩))
    go_ret
    exact ⟨by first | rfl | (simp [errW_none, errW_some] <;> rfl) | (simp [*, errW_none, errW_some] <;> rfl), by repeat (first | (with_reducible first | exact HB.out | apply below_alloc | apply pw_below_drewN | apply below_drew1) | exact HB.out)⟩
  · replace c3 := Bool.eq_false_iff.mpr c3
    subst c3
    have H1 : ((spec_DrawBestTackle.f k l0).bind fun t301 => ((impl_BestTackle.f k t301).bind fun bt302 => ((spec_BestTackle.f k t301).bind fun bt306 => ((impl_FewestBlocks.f k t301).bind fun bt310 => ((spec_FewestBlocks.f k t301).bind fun bt312 => ((spec_DrawPurchasesFor.f k l0).bind fun t314 => ((impl_PurchasesFor.f k t314).bind fun bt315 => ((spec_PurchasesFor.f k t314).bind fun bt319 => ((spec_DrawBlocksOf.f k l0).bind fun t323 => ((impl_BlocksOf.f k t323).bind fun bt326 => ((spec_BlocksOf.f k t323).bind fun bt328 => ((impl_SheavesOf.f k t323).bind fun bt330 => ((spec_SheavesOf.f k t323).bind fun bt332 => (if bt302.2 = bt306.2 then ((spec_SameTackle.f k bt302.1 bt306.1).bind fun t334 => (if t334 = true then (if bt310.2 = bt312.2 then (if bt310.1 = bt312.1 then (if bt315.2 = bt319.2 then ((spec_SameTackle.f k bt315.1 bt319.1).bind fun t335 => (if t335 = true then (if bt326.2 = bt328.2 then (if bt326.1 = bt328.1 then (if bt330.2 = bt332.2 then (if bt330.1 = bt332.1 then (laws_FnFewBlocks.j0 k t301 bt302.1 bt302.2 bt310.1 t314 bt319.1 t323 bt326.1 bt326.2 bt328.1 bt330.1 (bt310.2 != bt302.2)) else (laws_FnFewBlocks.j0 k t301 bt302.1 bt302.2 bt310.1 t314 bt319.1 t323 bt326.1 bt326.2 bt328.1 bt330.1 true)) else (laws_FnFewBlocks.j0 k t301 bt302.1 bt302.2 bt310.1 t314 bt319.1 t323 bt326.1 bt326.2 bt328.1 bt330.1 true)) else (laws_FnFewBlocks.j0 k t301 bt302.1 bt302.2 bt310.1 t314 bt319.1 t323 bt326.1 bt326.2 bt328.1 bt330.1 true)) else (laws_FnFewBlocks.j0 k t301 bt302.1 bt302.2 bt310.1 t314 bt319.1 t323 bt326.1 bt326.2 bt328.1 bt330.1 true)) else (laws_FnFewBlocks.j0 k t301 bt302.1 bt302.2 bt310.1 t314 bt319.1 t323 bt326.1 bt326.2 bt328.1 bt330.1 true))) else (laws_FnFewBlocks.j0 k t301 bt302.1 bt302.2 bt310.1 t314 bt319.1 t323 bt326.1 bt326.2 bt328.1 bt330.1 true)) else (laws_FnFewBlocks.j0 k t301 bt302.1 bt302.2 bt310.1 t314 bt319.1 t323 bt326.1 bt326.2 bt328.1 bt330.1 true)) else (laws_FnFewBlocks.j0 k t301 bt302.1 bt302.2 bt310.1 t314 bt319.1 t323 bt326.1 bt326.2 bt328.1 bt330.1 true)) else (laws_FnFewBlocks.j0 k t301 bt302.1 bt302.2 bt310.1 t314 bt319.1 t323 bt326.1 bt326.2 bt328.1 bt330.1 true))) else (laws_FnFewBlocks.j0 k t301 bt302.1 bt302.2 bt310.1 t314 bt319.1 t323 bt326.1 bt326.2 bt328.1 bt330.1 true))))))))))))))) = some r := by rw [if_neg (show ¬ (false = true) by decide)] at H; exact H
    clear H
    have H := H1
    clear H1
    replace H := Option.bind_eq_some_iff.mp H
    obtain ⟨t301, A40, H⟩ := H
    replace H : ((impl_BestTackle.f k t301).bind fun bt302 => ((spec_BestTackle.f k t301).bind fun bt306 => ((impl_FewestBlocks.f k t301).bind fun bt310 => ((spec_FewestBlocks.f k t301).bind fun bt312 => ((spec_DrawPurchasesFor.f k l0).bind fun t314 => ((impl_PurchasesFor.f k t314).bind fun bt315 => ((spec_PurchasesFor.f k t314).bind fun bt319 => ((spec_DrawBlocksOf.f k l0).bind fun t323 => ((impl_BlocksOf.f k t323).bind fun bt326 => ((spec_BlocksOf.f k t323).bind fun bt328 => ((impl_SheavesOf.f k t323).bind fun bt330 => ((spec_SheavesOf.f k t323).bind fun bt332 => (if bt302.2 = bt306.2 then ((spec_SameTackle.f k bt302.1 bt306.1).bind fun t334 => (if t334 = true then (if bt310.2 = bt312.2 then (if bt310.1 = bt312.1 then (if bt315.2 = bt319.2 then ((spec_SameTackle.f k bt315.1 bt319.1).bind fun t335 => (if t335 = true then (if bt326.2 = bt328.2 then (if bt326.1 = bt328.1 then (if bt330.2 = bt332.2 then (if bt330.1 = bt332.1 then (laws_FnFewBlocks.j0 k t301 bt302.1 bt302.2 bt310.1 t314 bt319.1 t323 bt326.1 bt326.2 bt328.1 bt330.1 (bt310.2 != bt302.2)) else (laws_FnFewBlocks.j0 k t301 bt302.1 bt302.2 bt310.1 t314 bt319.1 t323 bt326.1 bt326.2 bt328.1 bt330.1 true)) else (laws_FnFewBlocks.j0 k t301 bt302.1 bt302.2 bt310.1 t314 bt319.1 t323 bt326.1 bt326.2 bt328.1 bt330.1 true)) else (laws_FnFewBlocks.j0 k t301 bt302.1 bt302.2 bt310.1 t314 bt319.1 t323 bt326.1 bt326.2 bt328.1 bt330.1 true)) else (laws_FnFewBlocks.j0 k t301 bt302.1 bt302.2 bt310.1 t314 bt319.1 t323 bt326.1 bt326.2 bt328.1 bt330.1 true)) else (laws_FnFewBlocks.j0 k t301 bt302.1 bt302.2 bt310.1 t314 bt319.1 t323 bt326.1 bt326.2 bt328.1 bt330.1 true))) else (laws_FnFewBlocks.j0 k t301 bt302.1 bt302.2 bt310.1 t314 bt319.1 t323 bt326.1 bt326.2 bt328.1 bt330.1 true)) else (laws_FnFewBlocks.j0 k t301 bt302.1 bt302.2 bt310.1 t314 bt319.1 t323 bt326.1 bt326.2 bt328.1 bt330.1 true)) else (laws_FnFewBlocks.j0 k t301 bt302.1 bt302.2 bt310.1 t314 bt319.1 t323 bt326.1 bt326.2 bt328.1 bt330.1 true)) else (laws_FnFewBlocks.j0 k t301 bt302.1 bt302.2 bt310.1 t314 bt319.1 t323 bt326.1 bt326.2 bt328.1 bt330.1 true))) else (laws_FnFewBlocks.j0 k t301 bt302.1 bt302.2 bt310.1 t314 bt319.1 t323 bt326.1 bt326.2 bt328.1 bt330.1 true)))))))))))))) = some r := H
    have A4 := Aside0.mk A40
    clear A40
    replace H := Option.bind_eq_some_iff.mp H
    obtain ⟨⟨t302, t303⟩, A50, H⟩ := H
    replace H : ((spec_BestTackle.f k t301).bind fun bt306 => ((impl_FewestBlocks.f k t301).bind fun bt310 => ((spec_FewestBlocks.f k t301).bind fun bt312 => ((spec_DrawPurchasesFor.f k l0).bind fun t314 => ((impl_PurchasesFor.f k t314).bind fun bt315 => ((spec_PurchasesFor.f k t314).bind fun bt319 => ((spec_DrawBlocksOf.f k l0).bind fun t323 => ((impl_BlocksOf.f k t323).bind fun bt326 => ((spec_BlocksOf.f k t323).bind fun bt328 => ((impl_SheavesOf.f k t323).bind fun bt330 => ((spec_SheavesOf.f k t323).bind fun bt332 => (if t303 = bt306.2 then ((spec_SameTackle.f k t302 bt306.1).bind fun t334 => (if t334 = true then (if bt310.2 = bt312.2 then (if bt310.1 = bt312.1 then (if bt315.2 = bt319.2 then ((spec_SameTackle.f k bt315.1 bt319.1).bind fun t335 => (if t335 = true then (if bt326.2 = bt328.2 then (if bt326.1 = bt328.1 then (if bt330.2 = bt332.2 then (if bt330.1 = bt332.1 then (laws_FnFewBlocks.j0 k t301 t302 t303 bt310.1 t314 bt319.1 t323 bt326.1 bt326.2 bt328.1 bt330.1 (bt310.2 != t303)) else (laws_FnFewBlocks.j0 k t301 t302 t303 bt310.1 t314 bt319.1 t323 bt326.1 bt326.2 bt328.1 bt330.1 true)) else (laws_FnFewBlocks.j0 k t301 t302 t303 bt310.1 t314 bt319.1 t323 bt326.1 bt326.2 bt328.1 bt330.1 true)) else (laws_FnFewBlocks.j0 k t301 t302 t303 bt310.1 t314 bt319.1 t323 bt326.1 bt326.2 bt328.1 bt330.1 true)) else (laws_FnFewBlocks.j0 k t301 t302 t303 bt310.1 t314 bt319.1 t323 bt326.1 bt326.2 bt328.1 bt330.1 true)) else (laws_FnFewBlocks.j0 k t301 t302 t303 bt310.1 t314 bt319.1 t323 bt326.1 bt326.2 bt328.1 bt330.1 true))) else (laws_FnFewBlocks.j0 k t301 t302 t303 bt310.1 t314 bt319.1 t323 bt326.1 bt326.2 bt328.1 bt330.1 true)) else (laws_FnFewBlocks.j0 k t301 t302 t303 bt310.1 t314 bt319.1 t323 bt326.1 bt326.2 bt328.1 bt330.1 true)) else (laws_FnFewBlocks.j0 k t301 t302 t303 bt310.1 t314 bt319.1 t323 bt326.1 bt326.2 bt328.1 bt330.1 true)) else (laws_FnFewBlocks.j0 k t301 t302 t303 bt310.1 t314 bt319.1 t323 bt326.1 bt326.2 bt328.1 bt330.1 true))) else (laws_FnFewBlocks.j0 k t301 t302 t303 bt310.1 t314 bt319.1 t323 bt326.1 bt326.2 bt328.1 bt330.1 true))))))))))))) = some r := H
    have A5 := Aside0.mk A50
    clear A50
    replace H := Option.bind_eq_some_iff.mp H
    obtain ⟨⟨t306, t307⟩, A60, H⟩ := H
    replace H : ((impl_FewestBlocks.f k t301).bind fun bt310 => ((spec_FewestBlocks.f k t301).bind fun bt312 => ((spec_DrawPurchasesFor.f k l0).bind fun t314 => ((impl_PurchasesFor.f k t314).bind fun bt315 => ((spec_PurchasesFor.f k t314).bind fun bt319 => ((spec_DrawBlocksOf.f k l0).bind fun t323 => ((impl_BlocksOf.f k t323).bind fun bt326 => ((spec_BlocksOf.f k t323).bind fun bt328 => ((impl_SheavesOf.f k t323).bind fun bt330 => ((spec_SheavesOf.f k t323).bind fun bt332 => (if t303 = t307 then ((spec_SameTackle.f k t302 t306).bind fun t334 => (if t334 = true then (if bt310.2 = bt312.2 then (if bt310.1 = bt312.1 then (if bt315.2 = bt319.2 then ((spec_SameTackle.f k bt315.1 bt319.1).bind fun t335 => (if t335 = true then (if bt326.2 = bt328.2 then (if bt326.1 = bt328.1 then (if bt330.2 = bt332.2 then (if bt330.1 = bt332.1 then (laws_FnFewBlocks.j0 k t301 t302 t303 bt310.1 t314 bt319.1 t323 bt326.1 bt326.2 bt328.1 bt330.1 (bt310.2 != t303)) else (laws_FnFewBlocks.j0 k t301 t302 t303 bt310.1 t314 bt319.1 t323 bt326.1 bt326.2 bt328.1 bt330.1 true)) else (laws_FnFewBlocks.j0 k t301 t302 t303 bt310.1 t314 bt319.1 t323 bt326.1 bt326.2 bt328.1 bt330.1 true)) else (laws_FnFewBlocks.j0 k t301 t302 t303 bt310.1 t314 bt319.1 t323 bt326.1 bt326.2 bt328.1 bt330.1 true)) else (laws_FnFewBlocks.j0 k t301 t302 t303 bt310.1 t314 bt319.1 t323 bt326.1 bt326.2 bt328.1 bt330.1 true)) else (laws_FnFewBlocks.j0 k t301 t302 t303 bt310.1 t314 bt319.1 t323 bt326.1 bt326.2 bt328.1 bt330.1 true))) else (laws_FnFewBlocks.j0 k t301 t302 t303 bt310.1 t314 bt319.1 t323 bt326.1 bt326.2 bt328.1 bt330.1 true)) else (laws_FnFewBlocks.j0 k t301 t302 t303 bt310.1 t314 bt319.1 t323 bt326.1 bt326.2 bt328.1 bt330.1 true)) else (laws_FnFewBlocks.j0 k t301 t302 t303 bt310.1 t314 bt319.1 t323 bt326.1 bt326.2 bt328.1 bt330.1 true)) else (laws_FnFewBlocks.j0 k t301 t302 t303 bt310.1 t314 bt319.1 t323 bt326.1 bt326.2 bt328.1 bt330.1 true))) else (laws_FnFewBlocks.j0 k t301 t302 t303 bt310.1 t314 bt319.1 t323 bt326.1 bt326.2 bt328.1 bt330.1 true)))))))))))) = some r := H
    have A6 := Aside0.mk A60
    clear A60
    replace H := Option.bind_eq_some_iff.mp H
    obtain ⟨⟨t310, t311⟩, A70, H⟩ := H
    replace H : ((spec_FewestBlocks.f k t301).bind fun bt312 => ((spec_DrawPurchasesFor.f k l0).bind fun t314 => ((impl_PurchasesFor.f k t314).bind fun bt315 => ((spec_PurchasesFor.f k t314).bind fun bt319 => ((spec_DrawBlocksOf.f k l0).bind fun t323 => ((impl_BlocksOf.f k t323).bind fun bt326 => ((spec_BlocksOf.f k t323).bind fun bt328 => ((impl_SheavesOf.f k t323).bind fun bt330 => ((spec_SheavesOf.f k t323).bind fun bt332 => (if t303 = t307 then ((spec_SameTackle.f k t302 t306).bind fun t334 => (if t334 = true then (if t311 = bt312.2 then (if t310 = bt312.1 then (if bt315.2 = bt319.2 then ((spec_SameTackle.f k bt315.1 bt319.1).bind fun t335 => (if t335 = true then (if bt326.2 = bt328.2 then (if bt326.1 = bt328.1 then (if bt330.2 = bt332.2 then (if bt330.1 = bt332.1 then (laws_FnFewBlocks.j0 k t301 t302 t303 t310 t314 bt319.1 t323 bt326.1 bt326.2 bt328.1 bt330.1 (t311 != t303)) else (laws_FnFewBlocks.j0 k t301 t302 t303 t310 t314 bt319.1 t323 bt326.1 bt326.2 bt328.1 bt330.1 true)) else (laws_FnFewBlocks.j0 k t301 t302 t303 t310 t314 bt319.1 t323 bt326.1 bt326.2 bt328.1 bt330.1 true)) else (laws_FnFewBlocks.j0 k t301 t302 t303 t310 t314 bt319.1 t323 bt326.1 bt326.2 bt328.1 bt330.1 true)) else (laws_FnFewBlocks.j0 k t301 t302 t303 t310 t314 bt319.1 t323 bt326.1 bt326.2 bt328.1 bt330.1 true)) else (laws_FnFewBlocks.j0 k t301 t302 t303 t310 t314 bt319.1 t323 bt326.1 bt326.2 bt328.1 bt330.1 true))) else (laws_FnFewBlocks.j0 k t301 t302 t303 t310 t314 bt319.1 t323 bt326.1 bt326.2 bt328.1 bt330.1 true)) else (laws_FnFewBlocks.j0 k t301 t302 t303 t310 t314 bt319.1 t323 bt326.1 bt326.2 bt328.1 bt330.1 true)) else (laws_FnFewBlocks.j0 k t301 t302 t303 t310 t314 bt319.1 t323 bt326.1 bt326.2 bt328.1 bt330.1 true)) else (laws_FnFewBlocks.j0 k t301 t302 t303 t310 t314 bt319.1 t323 bt326.1 bt326.2 bt328.1 bt330.1 true))) else (laws_FnFewBlocks.j0 k t301 t302 t303 t310 t314 bt319.1 t323 bt326.1 bt326.2 bt328.1 bt330.1 true))))))))))) = some r := H
    have A7 := Aside0.mk A70
    clear A70
    replace H := Option.bind_eq_some_iff.mp H
    obtain ⟨⟨t312, t313⟩, A80, H⟩ := H
    replace H : ((spec_DrawPurchasesFor.f k l0).bind fun t314 => ((impl_PurchasesFor.f k t314).bind fun bt315 => ((spec_PurchasesFor.f k t314).bind fun bt319 => ((spec_DrawBlocksOf.f k l0).bind fun t323 => ((impl_BlocksOf.f k t323).bind fun bt326 => ((spec_BlocksOf.f k t323).bind fun bt328 => ((impl_SheavesOf.f k t323).bind fun bt330 => ((spec_SheavesOf.f k t323).bind fun bt332 => (if t303 = t307 then ((spec_SameTackle.f k t302 t306).bind fun t334 => (if t334 = true then (if t311 = t313 then (if t310 = t312 then (if bt315.2 = bt319.2 then ((spec_SameTackle.f k bt315.1 bt319.1).bind fun t335 => (if t335 = true then (if bt326.2 = bt328.2 then (if bt326.1 = bt328.1 then (if bt330.2 = bt332.2 then (if bt330.1 = bt332.1 then (laws_FnFewBlocks.j0 k t301 t302 t303 t310 t314 bt319.1 t323 bt326.1 bt326.2 bt328.1 bt330.1 (t311 != t303)) else (laws_FnFewBlocks.j0 k t301 t302 t303 t310 t314 bt319.1 t323 bt326.1 bt326.2 bt328.1 bt330.1 true)) else (laws_FnFewBlocks.j0 k t301 t302 t303 t310 t314 bt319.1 t323 bt326.1 bt326.2 bt328.1 bt330.1 true)) else (laws_FnFewBlocks.j0 k t301 t302 t303 t310 t314 bt319.1 t323 bt326.1 bt326.2 bt328.1 bt330.1 true)) else (laws_FnFewBlocks.j0 k t301 t302 t303 t310 t314 bt319.1 t323 bt326.1 bt326.2 bt328.1 bt330.1 true)) else (laws_FnFewBlocks.j0 k t301 t302 t303 t310 t314 bt319.1 t323 bt326.1 bt326.2 bt328.1 bt330.1 true))) else (laws_FnFewBlocks.j0 k t301 t302 t303 t310 t314 bt319.1 t323 bt326.1 bt326.2 bt328.1 bt330.1 true)) else (laws_FnFewBlocks.j0 k t301 t302 t303 t310 t314 bt319.1 t323 bt326.1 bt326.2 bt328.1 bt330.1 true)) else (laws_FnFewBlocks.j0 k t301 t302 t303 t310 t314 bt319.1 t323 bt326.1 bt326.2 bt328.1 bt330.1 true)) else (laws_FnFewBlocks.j0 k t301 t302 t303 t310 t314 bt319.1 t323 bt326.1 bt326.2 bt328.1 bt330.1 true))) else (laws_FnFewBlocks.j0 k t301 t302 t303 t310 t314 bt319.1 t323 bt326.1 bt326.2 bt328.1 bt330.1 true)))))))))) = some r := H
    have A8 := Aside0.mk A80
    clear A80
    replace H := Option.bind_eq_some_iff.mp H
    obtain ⟨t314, A90, H⟩ := H
    replace H : ((impl_PurchasesFor.f k t314).bind fun bt315 => ((spec_PurchasesFor.f k t314).bind fun bt319 => ((spec_DrawBlocksOf.f k l0).bind fun t323 => ((impl_BlocksOf.f k t323).bind fun bt326 => ((spec_BlocksOf.f k t323).bind fun bt328 => ((impl_SheavesOf.f k t323).bind fun bt330 => ((spec_SheavesOf.f k t323).bind fun bt332 => (if t303 = t307 then ((spec_SameTackle.f k t302 t306).bind fun t334 => (if t334 = true then (if t311 = t313 then (if t310 = t312 then (if bt315.2 = bt319.2 then ((spec_SameTackle.f k bt315.1 bt319.1).bind fun t335 => (if t335 = true then (if bt326.2 = bt328.2 then (if bt326.1 = bt328.1 then (if bt330.2 = bt332.2 then (if bt330.1 = bt332.1 then (laws_FnFewBlocks.j0 k t301 t302 t303 t310 t314 bt319.1 t323 bt326.1 bt326.2 bt328.1 bt330.1 (t311 != t303)) else (laws_FnFewBlocks.j0 k t301 t302 t303 t310 t314 bt319.1 t323 bt326.1 bt326.2 bt328.1 bt330.1 true)) else (laws_FnFewBlocks.j0 k t301 t302 t303 t310 t314 bt319.1 t323 bt326.1 bt326.2 bt328.1 bt330.1 true)) else (laws_FnFewBlocks.j0 k t301 t302 t303 t310 t314 bt319.1 t323 bt326.1 bt326.2 bt328.1 bt330.1 true)) else (laws_FnFewBlocks.j0 k t301 t302 t303 t310 t314 bt319.1 t323 bt326.1 bt326.2 bt328.1 bt330.1 true)) else (laws_FnFewBlocks.j0 k t301 t302 t303 t310 t314 bt319.1 t323 bt326.1 bt326.2 bt328.1 bt330.1 true))) else (laws_FnFewBlocks.j0 k t301 t302 t303 t310 t314 bt319.1 t323 bt326.1 bt326.2 bt328.1 bt330.1 true)) else (laws_FnFewBlocks.j0 k t301 t302 t303 t310 t314 bt319.1 t323 bt326.1 bt326.2 bt328.1 bt330.1 true)) else (laws_FnFewBlocks.j0 k t301 t302 t303 t310 t314 bt319.1 t323 bt326.1 bt326.2 bt328.1 bt330.1 true)) else (laws_FnFewBlocks.j0 k t301 t302 t303 t310 t314 bt319.1 t323 bt326.1 bt326.2 bt328.1 bt330.1 true))) else (laws_FnFewBlocks.j0 k t301 t302 t303 t310 t314 bt319.1 t323 bt326.1 bt326.2 bt328.1 bt330.1 true))))))))) = some r := H
    have A9 := Aside0.mk A90
    clear A90
    replace H := Option.bind_eq_some_iff.mp H
    obtain ⟨⟨t315, t316⟩, A100, H⟩ := H
    replace H : ((spec_PurchasesFor.f k t314).bind fun bt319 => ((spec_DrawBlocksOf.f k l0).bind fun t323 => ((impl_BlocksOf.f k t323).bind fun bt326 => ((spec_BlocksOf.f k t323).bind fun bt328 => ((impl_SheavesOf.f k t323).bind fun bt330 => ((spec_SheavesOf.f k t323).bind fun bt332 => (if t303 = t307 then ((spec_SameTackle.f k t302 t306).bind fun t334 => (if t334 = true then (if t311 = t313 then (if t310 = t312 then (if t316 = bt319.2 then ((spec_SameTackle.f k t315 bt319.1).bind fun t335 => (if t335 = true then (if bt326.2 = bt328.2 then (if bt326.1 = bt328.1 then (if bt330.2 = bt332.2 then (if bt330.1 = bt332.1 then (laws_FnFewBlocks.j0 k t301 t302 t303 t310 t314 bt319.1 t323 bt326.1 bt326.2 bt328.1 bt330.1 (t311 != t303)) else (laws_FnFewBlocks.j0 k t301 t302 t303 t310 t314 bt319.1 t323 bt326.1 bt326.2 bt328.1 bt330.1 true)) else (laws_FnFewBlocks.j0 k t301 t302 t303 t310 t314 bt319.1 t323 bt326.1 bt326.2 bt328.1 bt330.1 true)) else (laws_FnFewBlocks.j0 k t301 t302 t303 t310 t314 bt319.1 t323 bt326.1 bt326.2 bt328.1 bt330.1 true)) else (laws_FnFewBlocks.j0 k t301 t302 t303 t310 t314 bt319.1 t323 bt326.1 bt326.2 bt328.1 bt330.1 true)) else (laws_FnFewBlocks.j0 k t301 t302 t303 t310 t314 bt319.1 t323 bt326.1 bt326.2 bt328.1 bt330.1 true))) else (laws_FnFewBlocks.j0 k t301 t302 t303 t310 t314 bt319.1 t323 bt326.1 bt326.2 bt328.1 bt330.1 true)) else (laws_FnFewBlocks.j0 k t301 t302 t303 t310 t314 bt319.1 t323 bt326.1 bt326.2 bt328.1 bt330.1 true)) else (laws_FnFewBlocks.j0 k t301 t302 t303 t310 t314 bt319.1 t323 bt326.1 bt326.2 bt328.1 bt330.1 true)) else (laws_FnFewBlocks.j0 k t301 t302 t303 t310 t314 bt319.1 t323 bt326.1 bt326.2 bt328.1 bt330.1 true))) else (laws_FnFewBlocks.j0 k t301 t302 t303 t310 t314 bt319.1 t323 bt326.1 bt326.2 bt328.1 bt330.1 true)))))))) = some r := H
    have A10 := Aside0.mk A100
    clear A100
    replace H := Option.bind_eq_some_iff.mp H
    obtain ⟨⟨t319, t320⟩, A110, H⟩ := H
    replace H : ((spec_DrawBlocksOf.f k l0).bind fun t323 => ((impl_BlocksOf.f k t323).bind fun bt326 => ((spec_BlocksOf.f k t323).bind fun bt328 => ((impl_SheavesOf.f k t323).bind fun bt330 => ((spec_SheavesOf.f k t323).bind fun bt332 => (if t303 = t307 then ((spec_SameTackle.f k t302 t306).bind fun t334 => (if t334 = true then (if t311 = t313 then (if t310 = t312 then (if t316 = t320 then ((spec_SameTackle.f k t315 t319).bind fun t335 => (if t335 = true then (if bt326.2 = bt328.2 then (if bt326.1 = bt328.1 then (if bt330.2 = bt332.2 then (if bt330.1 = bt332.1 then (laws_FnFewBlocks.j0 k t301 t302 t303 t310 t314 t319 t323 bt326.1 bt326.2 bt328.1 bt330.1 (t311 != t303)) else (laws_FnFewBlocks.j0 k t301 t302 t303 t310 t314 t319 t323 bt326.1 bt326.2 bt328.1 bt330.1 true)) else (laws_FnFewBlocks.j0 k t301 t302 t303 t310 t314 t319 t323 bt326.1 bt326.2 bt328.1 bt330.1 true)) else (laws_FnFewBlocks.j0 k t301 t302 t303 t310 t314 t319 t323 bt326.1 bt326.2 bt328.1 bt330.1 true)) else (laws_FnFewBlocks.j0 k t301 t302 t303 t310 t314 t319 t323 bt326.1 bt326.2 bt328.1 bt330.1 true)) else (laws_FnFewBlocks.j0 k t301 t302 t303 t310 t314 t319 t323 bt326.1 bt326.2 bt328.1 bt330.1 true))) else (laws_FnFewBlocks.j0 k t301 t302 t303 t310 t314 t319 t323 bt326.1 bt326.2 bt328.1 bt330.1 true)) else (laws_FnFewBlocks.j0 k t301 t302 t303 t310 t314 t319 t323 bt326.1 bt326.2 bt328.1 bt330.1 true)) else (laws_FnFewBlocks.j0 k t301 t302 t303 t310 t314 t319 t323 bt326.1 bt326.2 bt328.1 bt330.1 true)) else (laws_FnFewBlocks.j0 k t301 t302 t303 t310 t314 t319 t323 bt326.1 bt326.2 bt328.1 bt330.1 true))) else (laws_FnFewBlocks.j0 k t301 t302 t303 t310 t314 t319 t323 bt326.1 bt326.2 bt328.1 bt330.1 true))))))) = some r := H
    have A11 := Aside0.mk A110
    clear A110
    replace H := Option.bind_eq_some_iff.mp H
    obtain ⟨t323, A120, H⟩ := H
    replace H : ((impl_BlocksOf.f k t323).bind fun bt326 => ((spec_BlocksOf.f k t323).bind fun bt328 => ((impl_SheavesOf.f k t323).bind fun bt330 => ((spec_SheavesOf.f k t323).bind fun bt332 => (if t303 = t307 then ((spec_SameTackle.f k t302 t306).bind fun t334 => (if t334 = true then (if t311 = t313 then (if t310 = t312 then (if t316 = t320 then ((spec_SameTackle.f k t315 t319).bind fun t335 => (if t335 = true then (if bt326.2 = bt328.2 then (if bt326.1 = bt328.1 then (if bt330.2 = bt332.2 then (if bt330.1 = bt332.1 then (laws_FnFewBlocks.j0 k t301 t302 t303 t310 t314 t319 t323 bt326.1 bt326.2 bt328.1 bt330.1 (t311 != t303)) else (laws_FnFewBlocks.j0 k t301 t302 t303 t310 t314 t319 t323 bt326.1 bt326.2 bt328.1 bt330.1 true)) else (laws_FnFewBlocks.j0 k t301 t302 t303 t310 t314 t319 t323 bt326.1 bt326.2 bt328.1 bt330.1 true)) else (laws_FnFewBlocks.j0 k t301 t302 t303 t310 t314 t319 t323 bt326.1 bt326.2 bt328.1 bt330.1 true)) else (laws_FnFewBlocks.j0 k t301 t302 t303 t310 t314 t319 t323 bt326.1 bt326.2 bt328.1 bt330.1 true)) else (laws_FnFewBlocks.j0 k t301 t302 t303 t310 t314 t319 t323 bt326.1 bt326.2 bt328.1 bt330.1 true))) else (laws_FnFewBlocks.j0 k t301 t302 t303 t310 t314 t319 t323 bt326.1 bt326.2 bt328.1 bt330.1 true)) else (laws_FnFewBlocks.j0 k t301 t302 t303 t310 t314 t319 t323 bt326.1 bt326.2 bt328.1 bt330.1 true)) else (laws_FnFewBlocks.j0 k t301 t302 t303 t310 t314 t319 t323 bt326.1 bt326.2 bt328.1 bt330.1 true)) else (laws_FnFewBlocks.j0 k t301 t302 t303 t310 t314 t319 t323 bt326.1 bt326.2 bt328.1 bt330.1 true))) else (laws_FnFewBlocks.j0 k t301 t302 t303 t310 t314 t319 t323 bt326.1 bt326.2 bt328.1 bt330.1 true)))))) = some r := H
    have A12 := Aside0.mk A120
    clear A120
    replace H := Option.bind_eq_some_iff.mp H
    obtain ⟨⟨t326, t327⟩, A130, H⟩ := H
    replace H : ((spec_BlocksOf.f k t323).bind fun bt328 => ((impl_SheavesOf.f k t323).bind fun bt330 => ((spec_SheavesOf.f k t323).bind fun bt332 => (if t303 = t307 then ((spec_SameTackle.f k t302 t306).bind fun t334 => (if t334 = true then (if t311 = t313 then (if t310 = t312 then (if t316 = t320 then ((spec_SameTackle.f k t315 t319).bind fun t335 => (if t335 = true then (if t327 = bt328.2 then (if t326 = bt328.1 then (if bt330.2 = bt332.2 then (if bt330.1 = bt332.1 then (laws_FnFewBlocks.j0 k t301 t302 t303 t310 t314 t319 t323 t326 t327 bt328.1 bt330.1 (t311 != t303)) else (laws_FnFewBlocks.j0 k t301 t302 t303 t310 t314 t319 t323 t326 t327 bt328.1 bt330.1 true)) else (laws_FnFewBlocks.j0 k t301 t302 t303 t310 t314 t319 t323 t326 t327 bt328.1 bt330.1 true)) else (laws_FnFewBlocks.j0 k t301 t302 t303 t310 t314 t319 t323 t326 t327 bt328.1 bt330.1 true)) else (laws_FnFewBlocks.j0 k t301 t302 t303 t310 t314 t319 t323 t326 t327 bt328.1 bt330.1 true)) else (laws_FnFewBlocks.j0 k t301 t302 t303 t310 t314 t319 t323 t326 t327 bt328.1 bt330.1 true))) else (laws_FnFewBlocks.j0 k t301 t302 t303 t310 t314 t319 t323 t326 t327 bt328.1 bt330.1 true)) else (laws_FnFewBlocks.j0 k t301 t302 t303 t310 t314 t319 t323 t326 t327 bt328.1 bt330.1 true)) else (laws_FnFewBlocks.j0 k t301 t302 t303 t310 t314 t319 t323 t326 t327 bt328.1 bt330.1 true)) else (laws_FnFewBlocks.j0 k t301 t302 t303 t310 t314 t319 t323 t326 t327 bt328.1 bt330.1 true))) else (laws_FnFewBlocks.j0 k t301 t302 t303 t310 t314 t319 t323 t326 t327 bt328.1 bt330.1 true))))) = some r := H
    have A13 := Aside0.mk A130
    clear A130
    replace H := Option.bind_eq_some_iff.mp H
    obtain ⟨⟨t328, t329⟩, A140, H⟩ := H
    replace H : ((impl_SheavesOf.f k t323).bind fun bt330 => ((spec_SheavesOf.f k t323).bind fun bt332 => (if t303 = t307 then ((spec_SameTackle.f k t302 t306).bind fun t334 => (if t334 = true then (if t311 = t313 then (if t310 = t312 then (if t316 = t320 then ((spec_SameTackle.f k t315 t319).bind fun t335 => (if t335 = true then (if t327 = t329 then (if t326 = t328 then (if bt330.2 = bt332.2 then (if bt330.1 = bt332.1 then (laws_FnFewBlocks.j0 k t301 t302 t303 t310 t314 t319 t323 t326 t327 t328 bt330.1 (t311 != t303)) else (laws_FnFewBlocks.j0 k t301 t302 t303 t310 t314 t319 t323 t326 t327 t328 bt330.1 true)) else (laws_FnFewBlocks.j0 k t301 t302 t303 t310 t314 t319 t323 t326 t327 t328 bt330.1 true)) else (laws_FnFewBlocks.j0 k t301 t302 t303 t310 t314 t319 t323 t326 t327 t328 bt330.1 true)) else (laws_FnFewBlocks.j0 k t301 t302 t303 t310 t314 t319 t323 t326 t327 t328 bt330.1 true)) else (laws_FnFewBlocks.j0 k t301 t302 t303 t310 t314 t319 t323 t326 t327 t328 bt330.1 true))) else (laws_FnFewBlocks.j0 k t301 t302 t303 t310 t314 t319 t323 t326 t327 t328 bt330.1 true)) else (laws_FnFewBlocks.j0 k t301 t302 t303 t310 t314 t319 t323 t326 t327 t328 bt330.1 true)) else (laws_FnFewBlocks.j0 k t301 t302 t303 t310 t314 t319 t323 t326 t327 t328 bt330.1 true)) else (laws_FnFewBlocks.j0 k t301 t302 t303 t310 t314 t319 t323 t326 t327 t328 bt330.1 true))) else (laws_FnFewBlocks.j0 k t301 t302 t303 t310 t314 t319 t323 t326 t327 t328 bt330.1 true)))) = some r := H
    have A14 := Aside0.mk A140
    clear A140
    replace H := Option.bind_eq_some_iff.mp H
    obtain ⟨⟨t330, t331⟩, A150, H⟩ := H
    replace H : ((spec_SheavesOf.f k t323).bind fun bt332 => (if t303 = t307 then ((spec_SameTackle.f k t302 t306).bind fun t334 => (if t334 = true then (if t311 = t313 then (if t310 = t312 then (if t316 = t320 then ((spec_SameTackle.f k t315 t319).bind fun t335 => (if t335 = true then (if t327 = t329 then (if t326 = t328 then (if t331 = bt332.2 then (if t330 = bt332.1 then (laws_FnFewBlocks.j0 k t301 t302 t303 t310 t314 t319 t323 t326 t327 t328 t330 (t311 != t303)) else (laws_FnFewBlocks.j0 k t301 t302 t303 t310 t314 t319 t323 t326 t327 t328 t330 true)) else (laws_FnFewBlocks.j0 k t301 t302 t303 t310 t314 t319 t323 t326 t327 t328 t330 true)) else (laws_FnFewBlocks.j0 k t301 t302 t303 t310 t314 t319 t323 t326 t327 t328 t330 true)) else (laws_FnFewBlocks.j0 k t301 t302 t303 t310 t314 t319 t323 t326 t327 t328 t330 true)) else (laws_FnFewBlocks.j0 k t301 t302 t303 t310 t314 t319 t323 t326 t327 t328 t330 true))) else (laws_FnFewBlocks.j0 k t301 t302 t303 t310 t314 t319 t323 t326 t327 t328 t330 true)) else (laws_FnFewBlocks.j0 k t301 t302 t303 t310 t314 t319 t323 t326 t327 t328 t330 true)) else (laws_FnFewBlocks.j0 k t301 t302 t303 t310 t314 t319 t323 t326 t327 t328 t330 true)) else (laws_FnFewBlocks.j0 k t301 t302 t303 t310 t314 t319 t323 t326 t327 t328 t330 true))) else (laws_FnFewBlocks.j0 k t301 t302 t303 t310 t314 t319 t323 t326 t327 t328 t330 true))) = some r := H
    have A15 := Aside0.mk A150
    clear A150
    replace H := Option.bind_eq_some_iff.mp H
    obtain ⟨⟨t332, t333⟩, A160, H⟩ := H
    replace H : (if t303 = t307 then ((spec_SameTackle.f k t302 t306).bind fun t334 => (if t334 = true then (if t311 = t313 then (if t310 = t312 then (if t316 = t320 then ((spec_SameTackle.f k t315 t319).bind fun t335 => (if t335 = true then (if t327 = t329 then (if t326 = t328 then (if t331 = t333 then (if t330 = t332 then (laws_FnFewBlocks.j0 k t301 t302 t303 t310 t314 t319 t323 t326 t327 t328 t330 (t311 != t303)) else (laws_FnFewBlocks.j0 k t301 t302 t303 t310 t314 t319 t323 t326 t327 t328 t330 true)) else (laws_FnFewBlocks.j0 k t301 t302 t303 t310 t314 t319 t323 t326 t327 t328 t330 true)) else (laws_FnFewBlocks.j0 k t301 t302 t303 t310 t314 t319 t323 t326 t327 t328 t330 true)) else (laws_FnFewBlocks.j0 k t301 t302 t303 t310 t314 t319 t323 t326 t327 t328 t330 true)) else (laws_FnFewBlocks.j0 k t301 t302 t303 t310 t314 t319 t323 t326 t327 t328 t330 true))) else (laws_FnFewBlocks.j0 k t301 t302 t303 t310 t314 t319 t323 t326 t327 t328 t330 true)) else (laws_FnFewBlocks.j0 k t301 t302 t303 t310 t314 t319 t323 t326 t327 t328 t330 true)) else (laws_FnFewBlocks.j0 k t301 t302 t303 t310 t314 t319 t323 t326 t327 t328 t330 true)) else (laws_FnFewBlocks.j0 k t301 t302 t303 t310 t314 t319 t323 t326 t327 t328 t330 true))) else (laws_FnFewBlocks.j0 k t301 t302 t303 t310 t314 t319 t323 t326 t327 t328 t330 true)) = some r := H
    have A16 := Aside0.mk A160
    clear A160
    have HC17 := Aside0.mk H
    clear H
    go_enter Try.func4, Try.ntmps4
    go_upto_region 16 with (first | ((with_reducible refine gate_callee (f := 10) rfl ?_); refine goesL_ (some 38) rfl rfl Try.func10 (by kernel_rfl) rfl #[.slice A0 l0.length c0] rfl (by (try simp only [List.map_toArray, List.map_cons, List.map_nil]); first | done | rfl | (simp only [List.length_drop, List.length_take]; rfl)) ?_; (with_reducible refine (laws_f6big.calls _ _ l0 false _ ?side1 ?side2 A2.out).mono ?_); (case side1 => repeat (first | exact HR0.out | (with_reducible refine Kd.C_alloc ?_ _) | (with_reducible refine Kd.C_drewN ?_ _) | (with_reducible refine Kd.C_drew ?_))); (case side2 => exact HC0.out); rintro e w' ⟨rfl, ⟨nd, rfl⟩⟩; refine ⟨_, rfl, ?_⟩) | ((with_reducible refine gate_callee (f := 11) rfl ?_); refine goesL_ (some 40) rfl rfl Try.func11 (by kernel_rfl) rfl #[.slice A0 l0.length c0] rfl (by (try simp only [List.map_toArray, List.map_cons, List.map_nil]); first | done | rfl | (simp only [List.length_drop, List.length_take]; rfl)) ?_; (with_reducible refine (spec_DrawBestTackle.calls k _ _ l0 t301 _ ?side1 ?side2 A4.out).mono ?_); (case side1 => repeat (first | exact HR0.out | (with_reducible refine Kd.C_alloc ?_ _) | (with_reducible refine Kd.C_drewN ?_ _) | (with_reducible refine Kd.C_drew ?_))); (case side2 => exact HC0.out); rintro e w18 ⟨rfl, hb⟩; refine ⟨_, rfl, ?_⟩; have n0_ := Aside0.mk (below_step (by repeat (first | (with_reducible first | exact HB.out | apply below_alloc | apply pw_below_drewN | apply below_drew1) | exact HB.out)) hb); clear HB; have HB := n0_; clear n0_; (try clear hb); (try clear hb2); (try clear hk); (try clear hi)) | ((with_reducible refine gate_callee (f := 6) rfl ?_); refine goesL_ (some 43) rfl rfl Try.func6 (by kernel_rfl) rfl #[.int .i64 t301] rfl (by (try simp only [List.map_toArray, List.map_cons, List.map_nil]); first | done | rfl | (simp only [List.length_drop, List.length_take]; rfl)) ?_; (with_reducible refine (impl_BestTackle.calls k t301 t302 t303 _ A5.out).mono ?_); rintro e w19 ⟨v304, rfl, ho0, hb⟩; refine ⟨_, rfl, ?_⟩; have n0_ := Aside0.mk (Kd.R_lower ho0 (below_size (by repeat (first | (with_reducible first | exact HB.out | apply below_alloc | apply pw_below_drewN | apply below_drew1) | exact HB.out)))); have n1_ := Aside0.mk (below_step (by repeat (first | (with_reducible first | exact HB.out | apply below_alloc | apply pw_below_drewN | apply below_drew1) | exact HB.out)) hb); clear HB; have HO305 := n0_; have HB := n1_; clear n0_ n1_; (try clear hb); (try clear hb2); (try clear hk); (try clear hi); (try clear ho0)) | ((with_reducible refine gate_callee (f := 5) rfl ?_); refine goesL_ (some 48) rfl rfl Try.func5 (by kernel_rfl) rfl #[.int .i64 t301] rfl (by (try simp only [List.map_toArray, List.map_cons, List.map_nil]); first | done | rfl | (simp only [List.length_drop, List.length_take]; rfl)) ?_; (with_reducible refine (spec_BestTackle.calls k t301 t306 t307 _ A6.out).mono ?_); rintro e w20 ⟨v308, rfl, ho0, hb⟩; refine ⟨_, rfl, ?_⟩; have n0_ := Aside0.mk (Kd.R_elder' (by (with_reducible repeat (first | apply Kd.R_alloc | apply Kd.R_drewN | apply Kd.R_drew)); exact HO305.out) (Kd.R_base ho0) hb); have n1_ := Aside0.mk (Kd.R_lower (Kd.R_new' ho0 (Kd.R_lt (by (with_reducible repeat (first | apply Kd.R_alloc | apply Kd.R_drewN | apply Kd.R_drew)); exact HO305.out))) (below_size (by repeat (first | (with_reducible first | exact HB.out | apply below_alloc | apply pw_below_drewN | apply below_drew1) | exact HB.out)))); have n2_ := Aside0.mk (below_step (by repeat (first | (with_reducible first | exact HB.out | apply below_alloc | apply pw_below_drewN | apply below_drew1) | exact HB.out)) hb); clear HO305; clear HB; have HO305 := n0_; have HO309 := n1_; have HB := n2_; clear n0_ n1_ n2_; (try clear hb); (try clear hb2); (try clear hk); (try clear hi); (try clear ho0)) | ((with_reducible refine gate_callee (f := 12) rfl ?_); refine goesL_ (some 53) rfl rfl Try.func12 (by kernel_rfl) rfl #[.int .i64 t301] rfl (by (try simp only [List.map_toArray, List.map_cons, List.map_nil]); first | done | rfl | (simp only [List.length_drop, List.length_take]; rfl)) ?_; (with_reducible refine (impl_FewestBlocks.calls k t301 t310 t311 _ A7.out).mono ?_); rintro e w21 ⟨rfl, hb⟩; refine ⟨_, rfl, ?_⟩; have n0_ := Aside0.mk (Kd.R_below (by (with_reducible repeat (first | apply Kd.R_alloc | apply Kd.R_drewN | apply Kd.R_drew)); exact HO305.out) hb); have n1_ := Aside0.mk (Kd.R_below (by (with_reducible repeat (first | apply Kd.R_alloc | apply Kd.R_drewN | apply Kd.R_drew)); exact HO309.out) hb); have n2_ := Aside0.mk (below_step (by repeat (first | (with_reducible first | exact HB.out | apply below_alloc | apply pw_below_drewN | apply below_drew1) | exact HB.out)) hb); clear HO305; clear HO309; clear HB; have HO305 := n0_; have HO309 := n1_; have HB := n2_; clear n0_ n1_ n2_; (try clear hb); (try clear hb2); (try clear hk); (try clear hi)) | ((with_reducible refine gate_callee (f := 13) rfl ?_); refine goesL_ (some 58) rfl rfl Try.func13 (by kernel_rfl) rfl #[.int .i64 t301] rfl (by (try simp only [List.map_toArray, List.map_cons, List.map_nil]); first | done | rfl | (simp only [List.length_drop, List.length_take]; rfl)) ?_; (with_reducible refine (spec_FewestBlocks.calls k t301 t312 t313 _ A8.out).mono ?_); rintro e w22 ⟨rfl, hb⟩; refine ⟨_, rfl, ?_⟩; have n0_ := Aside0.mk (Kd.R_below (by (with_reducible repeat (first | apply Kd.R_alloc | apply Kd.R_drewN | apply Kd.R_drew)); exact HO305.out) hb); have n1_ := Aside0.mk (Kd.R_below (by (with_reducible repeat (first | apply Kd.R_alloc | apply Kd.R_drewN | apply Kd.R_drew)); exact HO309.out) hb); have n2_ := Aside0.mk (below_step (by repeat (first | (with_reducible first | exact HB.out | apply below_alloc | apply pw_below_drewN | apply below_drew1) | exact HB.out)) hb); clear HO305; clear HO309; clear HB; have HO305 := n0_; have HO309 := n1_; have HB := n2_; clear n0_ n1_ n2_; (try clear hb); (try clear hb2); (try clear hk); (try clear hi)) | ((with_reducible refine gate_callee (f := 14) rfl ?_); refine goesL_ (some 62) rfl rfl Try.func14 (by kernel_rfl) rfl #[.slice A0 l0.length c0] rfl (by (try simp only [List.map_toArray, List.map_cons, List.map_nil]); first | done | rfl | (simp only [List.length_drop, List.length_take]; rfl)) ?_; (with_reducible refine (spec_DrawPurchasesFor.calls k _ _ l0 t314 _ ?side1 ?side2 A9.out).mono ?_); (case side1 => repeat (first | exact (Kd.C_below HR0.out HB.out) | (with_reducible refine Kd.C_alloc ?_ _) | (with_reducible refine Kd.C_drewN ?_ _) | (with_reducible refine Kd.C_drew ?_))); (case side2 => exact HC0.out); rintro e w23 ⟨rfl, hb⟩; refine ⟨_, rfl, ?_⟩; have n0_ := Aside0.mk (Kd.R_below (by (with_reducible repeat (first | apply Kd.R_alloc | apply Kd.R_drewN | apply Kd.R_drew)); exact HO305.out) hb); have n1_ := Aside0.mk (Kd.R_below (by (with_reducible repeat (first | apply Kd.R_alloc | apply Kd.R_drewN | apply Kd.R_drew)); exact HO309.out) hb); have n2_ := Aside0.mk (below_step (by repeat (first | (with_reducible first | exact HB.out | apply below_alloc | apply pw_below_drewN | apply below_drew1) | exact HB.out)) hb); clear HO305; clear HO309; clear HB; have HO305 := n0_; have HO309 := n1_; have HB := n2_; clear n0_ n1_ n2_; (try clear hb); (try clear hb2); (try clear hk); (try clear hi)) | ((with_reducible refine gate_callee (f := 15) rfl ?_); refine goesL_ (some 65) rfl rfl Try.func15 (by kernel_rfl) rfl #[.int .i64 t314] rfl (by (try simp only [List.map_toArray, List.map_cons, List.map_nil]); first | done | rfl | (simp only [List.length_drop, List.length_take]; rfl)) ?_; (with_reducible refine (impl_PurchasesFor.calls k t314 t315 t316 _ A10.out).mono ?_); rintro e w24 ⟨v317, rfl, ho0, hb⟩; refine ⟨_, rfl, ?_⟩; have n0_ := Aside0.mk (Kd.R_elder' (by (with_reducible repeat (first | apply Kd.R_alloc | apply Kd.R_drewN | apply Kd.R_drew)); exact HO305.out) (Kd.R_base ho0) hb); have n1_ := Aside0.mk (Kd.R_elder' (by (with_reducible repeat (first | apply Kd.R_alloc | apply Kd.R_drewN | apply Kd.R_drew)); exact HO309.out) (Kd.R_base ho0) hb); have n2_ := Aside0.mk (Kd.R_lower (Kd.R_new' (Kd.R_new' ho0 (Kd.R_lt (by (with_reducible repeat (first | apply Kd.R_alloc | apply Kd.R_drewN | apply Kd.R_drew)); exact HO305.out))) (Kd.R_lt (by (with_reducible repeat (first | apply Kd.R_alloc | apply Kd.R_drewN | apply Kd.R_drew)); exact HO309.out))) (below_size (by repeat (first | (with_reducible first | exact HB.out | apply below_alloc | apply pw_below_drewN | apply below_drew1) | exact HB.out)))); have n3_ := Aside0.mk (below_step (by repeat (first | (with_reducible first | exact HB.out | apply below_alloc | apply pw_below_drewN | apply below_drew1) | exact HB.out)) hb); clear HO305; clear HO309; clear HB; have HO305 := n0_; have HO309 := n1_; have HO318 := n2_; have HB := n3_; clear n0_ n1_ n2_ n3_; (try clear hb); (try clear hb2); (try clear hk); (try clear hi); (try clear ho0)) | ((with_reducible refine gate_callee (f := 16) rfl ?_); refine goesL_ (some 70) rfl rfl Try.func16 (by kernel_rfl) rfl #[.int .i64 t314] rfl (by (try simp only [List.map_toArray, List.map_cons, List.map_nil]); first | done | rfl | (simp only [List.length_drop, List.length_take]; rfl)) ?_; (with_reducible refine (spec_PurchasesFor.calls k t314 t319 t320 _ A11.out).mono ?_); rintro e w25 ⟨v321, rfl, ho0, hb⟩; refine ⟨_, rfl, ?_⟩; have n0_ := Aside0.mk (Kd.R_elder' (by (with_reducible repeat (first | apply Kd.R_alloc | apply Kd.R_drewN | apply Kd.R_drew)); exact HO305.out) (Kd.R_base ho0) hb); have n1_ := Aside0.mk (Kd.R_elder' (by (with_reducible repeat (first | apply Kd.R_alloc | apply Kd.R_drewN | apply Kd.R_drew)); exact HO309.out) (Kd.R_base ho0) hb); have n2_ := Aside0.mk (Kd.R_elder' (by (with_reducible repeat (first | apply Kd.R_alloc | apply Kd.R_drewN | apply Kd.R_drew)); exact HO318.out) (Kd.R_base ho0) hb); have n3_ := Aside0.mk (Kd.R_lower (Kd.R_new' (Kd.R_new' (Kd.R_new' ho0 (Kd.R_lt (by (with_reducible repeat (first | apply Kd.R_alloc | apply Kd.R_drewN | apply Kd.R_drew)); exact HO305.out))) (Kd.R_lt (by (with_reducible repeat (first | apply Kd.R_alloc | apply Kd.R_drewN | apply Kd.R_drew)); exact HO309.out))) (Kd.R_lt (by (with_reducible repeat (first | apply Kd.R_alloc | apply Kd.R_drewN | apply Kd.R_drew)); exact HO318.out))) (below_size (by repeat (first | (with_reducible first | exact HB.out | apply below_alloc | apply pw_below_drewN | apply below_drew1) | exact HB.out)))); have n4_ := Aside0.mk (below_step (by repeat (first | (with_reducible first | exact HB.out | apply below_alloc | apply pw_below_drewN | apply below_drew1) | exact HB.out)) hb); clear HO305; clear HO309; clear HO318; clear HB; have HO305 := n0_; have HO309 := n1_; have HO318 := n2_; have HO322 := n3_; have HB := n4_; clear n0_ n1_ n2_ n3_ n4_; (try clear hb); (try clear hb2); (try clear hk); (try clear hi); (try clear ho0)) | ((with_reducible refine gate_callee (f := 17) rfl ?_); refine goesL_ (some 74) rfl rfl Try.func17 (by kernel_rfl) rfl #[.slice A0 l0.length c0] rfl (by (try simp only [List.map_toArray, List.map_cons, List.map_nil]); first | done | rfl | (simp only [List.length_drop, List.length_take]; rfl)) ?_; (with_reducible refine (spec_DrawBlocksOf.calls k _ _ l0 t323 _ ?side1 ?side2 A12.out).mono ?_); (case side1 => repeat (first | exact (Kd.C_below HR0.out HB.out) | (with_reducible refine Kd.C_alloc ?_ _) | (with_reducible refine Kd.C_drewN ?_ _) | (with_reducible refine Kd.C_drew ?_))); (case side2 => exact HC0.out); rintro e w26 ⟨v324, rfl, ho0, hb⟩; refine ⟨_, rfl, ?_⟩; have n0_ := Aside0.mk (Kd.R_elder' (by (with_reducible repeat (first | apply Kd.R_alloc | apply Kd.R_drewN | apply Kd.R_drew)); exact HO305.out) (Kd.R_base ho0) hb); have n1_ := Aside0.mk (Kd.R_elder' (by (with_reducible repeat (first | apply Kd.R_alloc | apply Kd.R_drewN | apply Kd.R_drew)); exact HO309.out) (Kd.R_base ho0) hb); have n2_ := Aside0.mk (Kd.R_elder' (by (with_reducible repeat (first | apply Kd.R_alloc | apply Kd.R_drewN | apply Kd.R_drew)); exact HO318.out) (Kd.R_base ho0) hb); have n3_ := Aside0.mk (Kd.R_elder' (by (with_reducible repeat (first | apply Kd.R_alloc | apply Kd.R_drewN | apply Kd.R_drew)); exact HO322.out) (Kd.R_base ho0) hb); have n4_ := Aside0.mk (Kd.R_lower (Kd.R_new' (Kd.R_new' (Kd.R_new' (Kd.R_new' ho0 (Kd.R_lt (by (with_reducible repeat (first | apply Kd.R_alloc | apply Kd.R_drewN | apply Kd.R_drew)); exact HO305.out))) (Kd.R_lt (by (with_reducible repeat (first | apply Kd.R_alloc | apply Kd.R_drewN | apply Kd.R_drew)); exact HO309.out))) (Kd.R_lt (by (with_reducible repeat (first | apply Kd.R_alloc | apply Kd.R_drewN | apply Kd.R_drew)); exact HO318.out))) (Kd.R_lt (by (with_reducible repeat (first | apply Kd.R_alloc | apply Kd.R_drewN | apply Kd.R_drew)); exact HO322.out))) (below_size (by repeat (first | (with_reducible first | exact HB.out | apply below_alloc | apply pw_below_drewN | apply below_drew1) | exact HB.out)))); have n5_ := Aside0.mk (below_step (by repeat (first | (with_reducible first | exact HB.out | apply below_alloc | apply pw_below_drewN | apply below_drew1) | exact HB.out)) hb); clear HO305; clear HO309; clear HO318; clear HO322; clear HB; have HO305 := n0_; have HO309 := n1_; have HO318 := n2_; have HO322 := n3_; have HO325 := n4_; have HB := n5_; clear n0_ n1_ n2_ n3_ n4_ n5_; (try clear hb); (try clear hb2); (try clear hk); (try clear hi); (try clear ho0); obtain ⟨Ao27, co27, eo27⟩ := Kd.R_slice HO325.out; subst eo27) | ((with_reducible refine gate_callee (f := 18) rfl ?_); refine goesL_ (some 77) rfl rfl Try.func18 (by kernel_rfl) rfl #[.slice Ao27 t323.length co27] rfl (by (try simp only [List.map_toArray, List.map_cons, List.map_nil]); first | done | rfl | (simp only [List.length_drop, List.length_take]; rfl)) ?_; (with_reducible refine (impl_BlocksOf.calls k _ _ t323 t326 t327 _ ?side1 ?side2 A13.out).mono ?_); (case side1 => repeat (first | exact (Kd.R_reads' HO325.out).2.2 | (with_reducible refine Kd.C_alloc ?_ _) | (with_reducible refine Kd.C_drewN ?_ _) | (with_reducible refine Kd.C_drew ?_))); (case side2 => exact (Kd.R_reads' HO325.out).2.1); rintro e w28 ⟨rfl, hb⟩; refine ⟨_, rfl, ?_⟩; have n0_ := Aside0.mk (Kd.R_below (by (with_reducible repeat (first | apply Kd.R_alloc | apply Kd.R_drewN | apply Kd.R_drew)); exact HO305.out) hb); have n1_ := Aside0.mk (Kd.R_below (by (with_reducible repeat (first | apply Kd.R_alloc | apply Kd.R_drewN | apply Kd.R_drew)); exact HO309.out) hb); have n2_ := Aside0.mk (Kd.R_below (by (with_reducible repeat (first | apply Kd.R_alloc | apply Kd.R_drewN | apply Kd.R_drew)); exact HO318.out) hb); have n3_ := Aside0.mk (Kd.R_below (by (with_reducible repeat (first | apply Kd.R_alloc | apply Kd.R_drewN | apply Kd.R_drew)); exact HO322.out) hb); have n4_ := Aside0.mk (Kd.R_below (by (with_reducible repeat (first | apply Kd.R_alloc | apply Kd.R_drewN | apply Kd.R_drew)); exact HO325.out) hb); have n5_ := Aside0.mk (below_step (by repeat (first | (with_reducible first | exact HB.out | apply below_alloc | apply pw_below_drewN | apply below_drew1) | exact HB.out)) hb); clear HO305; clear HO309; clear HO318; clear HO322; clear HO325; clear HB; have HO305 := n0_; have HO309 := n1_; have HO318 := n2_; have HO322 := n3_; have HO325 := n4_; have HB := n5_; clear n0_ n1_ n2_ n3_ n4_ n5_; (try clear hb); (try clear hb2); (try clear hk); (try clear hi)) | ((with_reducible refine gate_callee (f := 19) rfl ?_); refine goesL_ (some 82) rfl rfl Try.func19 (by kernel_rfl) rfl #[.slice Ao27 t323.length co27] rfl (by (try simp only [List.map_toArray, List.map_cons, List.map_nil]); first | done | rfl | (simp only [List.length_drop, List.length_take]; rfl)) ?_; (with_reducible refine (spec_BlocksOf.calls k _ _ t323 t328 t329 _ ?side1 ?side2 A14.out).mono ?_); (case side1 => repeat (first | exact (Kd.R_reads' HO325.out).2.2 | (with_reducible refine Kd.C_alloc ?_ _) | (with_reducible refine Kd.C_drewN ?_ _) | (with_reducible refine Kd.C_drew ?_))); (case side2 => exact (Kd.R_reads' HO325.out).2.1); rintro e w29 ⟨rfl, hb⟩; refine ⟨_, rfl, ?_⟩; have n0_ := Aside0.mk (Kd.R_below (by (with_reducible repeat (first | apply Kd.R_alloc | apply Kd.R_drewN | apply Kd.R_drew)); exact HO305.out) hb); have n1_ := Aside0.mk (Kd.R_below (by (with_reducible repeat (first | apply Kd.R_alloc | apply Kd.R_drewN | apply Kd.R_drew)); exact HO309.out) hb); have n2_ := Aside0.mk (Kd.R_below (by (with_reducible repeat (first | apply Kd.R_alloc | apply Kd.R_drewN | apply Kd.R_drew)); exact HO318.out) hb); have n3_ := Aside0.mk (Kd.R_below (by (with_reducible repeat (first | apply Kd.R_alloc | apply Kd.R_drewN | apply Kd.R_drew)); exact HO322.out) hb); have n4_ := Aside0.mk (Kd.R_below (by (with_reducible repeat (first | apply Kd.R_alloc | apply Kd.R_drewN | apply Kd.R_drew)); exact HO325.out) hb); have n5_ := Aside0.mk (below_step (by repeat (first | (with_reducible first | exact HB.out | apply below_alloc | apply pw_below_drewN | apply below_drew1) | exact HB.out)) hb); clear HO305; clear HO309; clear HO318; clear HO322; clear HO325; clear HB; have HO305 := n0_; have HO309 := n1_; have HO318 := n2_; have HO322 := n3_; have HO325 := n4_; have HB := n5_; clear n0_ n1_ n2_ n3_ n4_ n5_; (try clear hb); (try clear hb2); (try clear hk); (try clear hi)) | ((with_reducible refine gate_callee (f := 20) rfl ?_); refine goesL_ (some 87) rfl rfl Try.func20 (by kernel_rfl) rfl #[.slice Ao27 t323.length co27] rfl (by (try simp only [List.map_toArray, List.map_cons, List.map_nil]); first | done | rfl | (simp only [List.length_drop, List.length_take]; rfl)) ?_; (with_reducible refine (impl_SheavesOf.calls k _ _ t323 t330 t331 _ ?side1 ?side2 A15.out).mono ?_); (case side1 => repeat (first | exact (Kd.R_reads' HO325.out).2.2 | (with_reducible refine Kd.C_alloc ?_ _) | (with_reducible refine Kd.C_drewN ?_ _) | (with_reducible refine Kd.C_drew ?_))); (case side2 => exact (Kd.R_reads' HO325.out).2.1); rintro e w30 ⟨rfl, hb⟩; refine ⟨_, rfl, ?_⟩; have n0_ := Aside0.mk (Kd.R_below (by (with_reducible repeat (first | apply Kd.R_alloc | apply Kd.R_drewN | apply Kd.R_drew)); exact HO305.out) hb); have n1_ := Aside0.mk (Kd.R_below (by (with_reducible repeat (first | apply Kd.R_alloc | apply Kd.R_drewN | apply Kd.R_drew)); exact HO309.out) hb); have n2_ := Aside0.mk (Kd.R_below (by (with_reducible repeat (first | apply Kd.R_alloc | apply Kd.R_drewN | apply Kd.R_drew)); exact HO318.out) hb); have n3_ := Aside0.mk (Kd.R_below (by (with_reducible repeat (first | apply Kd.R_alloc | apply Kd.R_drewN | apply Kd.R_drew)); exact HO322.out) hb); have n4_ := Aside0.mk (Kd.R_below (by (with_reducible repeat (first | apply Kd.R_alloc | apply Kd.R_drewN | apply Kd.R_drew)); exact HO325.out) hb); have n5_ := Aside0.mk (below_step (by repeat (first | (with_reducible first | exact HB.out | apply below_alloc | apply pw_below_drewN | apply below_drew1) | exact HB.out)) hb); clear HO305; clear HO309; clear HO318; clear HO322; clear HO325; clear HB; have HO305 := n0_; have HO309 := n1_; have HO318 := n2_; have HO322 := n3_; have HO325 := n4_; have HB := n5_; clear n0_ n1_ n2_ n3_ n4_ n5_; (try clear hb); (try clear hb2); (try clear hk); (try clear hi)) | ((with_reducible refine gate_callee (f := 21) rfl ?_); refine goesL_ (some 92) rfl rfl Try.func21 (by kernel_rfl) rfl #[.slice Ao27 t323.length co27] rfl (by (try simp only [List.map_toArray, List.map_cons, List.map_nil]); first | done | rfl | (simp only [List.length_drop, List.length_take]; rfl)) ?_; (with_reducible refine (spec_SheavesOf.calls k _ _ t323 t332 t333 _ ?side1 ?side2 A16.out).mono ?_); (case side1 => repeat (first | exact (Kd.R_reads' HO325.out).2.2 | (with_reducible refine Kd.C_alloc ?_ _) | (with_reducible refine Kd.C_drewN ?_ _) | (with_reducible refine Kd.C_drew ?_))); (case side2 => exact (Kd.R_reads' HO325.out).2.1); rintro e w31 ⟨rfl, hb⟩; refine ⟨_, rfl, ?_⟩; have n0_ := Aside0.mk (Kd.R_below (by (with_reducible repeat (first | apply Kd.R_alloc | apply Kd.R_drewN | apply Kd.R_drew)); exact HO305.out) hb); have n1_ := Aside0.mk (Kd.R_below (by (with_reducible repeat (first | apply Kd.R_alloc | apply Kd.R_drewN | apply Kd.R_drew)); exact HO309.out) hb); have n2_ := Aside0.mk (Kd.R_below (by (with_reducible repeat (first | apply Kd.R_alloc | apply Kd.R_drewN | apply Kd.R_drew)); exact HO318.out) hb); have n3_ := Aside0.mk (Kd.R_below (by (with_reducible repeat (first | apply Kd.R_alloc | apply Kd.R_drewN | apply Kd.R_drew)); exact HO322.out) hb); have n4_ := Aside0.mk (Kd.R_below (by (with_reducible repeat (first | apply Kd.R_alloc | apply Kd.R_drewN | apply Kd.R_drew)); exact HO325.out) hb); have n5_ := Aside0.mk (below_step (by repeat (first | (with_reducible first | exact HB.out | apply below_alloc | apply pw_below_drewN | apply below_drew1) | exact HB.out)) hb); clear HO305; clear HO309; clear HO318; clear HO322; clear HO325; clear HB; have HO305 := n0_; have HO309 := n1_; have HO318 := n2_; have HO322 := n3_; have HO325 := n4_; have HB := n5_; clear n0_ n1_ n2_ n3_ n4_ n5_; (try clear hb); (try clear hb2); (try clear hk); (try clear hi)))
    (try simp only [Act.put, List.setIfInBounds_toArray, List.set_cons_zero, List.set_cons_succ])
    go_cut [149] (fun v149 wc => ∃ (kq : Nat) (x149_16 : Bool), v149 = .bool x149_16 ∧ Aside0 (laws_FnFewBlocks.j0 kq t301 t302 t303 t310 t314 t319 t323 t326 t327 t328 t330 x149_16 = some r) ∧ Aside0 (kq ≤ k) ∧ Aside0 (Kd.R k39 39 wc w.heap.size (fun k_ => some k_ ≠ (v321 : Value).ownBlock ∧ some k_ ≠ ((.slice Ao27 t323.length co27) : Value).ownBlock) v304 t302) ∧ Aside0 (Kd.R k39 39 wc w.heap.size (fun k_ => some k_ ≠ (v304 : Value).ownBlock ∧ some k_ ≠ ((.slice Ao27 t323.length co27) : Value).ownBlock) v321 t319) ∧ Aside0 (Kd.R k39 39 wc w.heap.size (fun k_ => some k_ ≠ (v304 : Value).ownBlock ∧ some k_ ≠ (v321 : Value).ownBlock) (.slice Ao27 t323.length co27) t323) ∧ Aside0 (Below w.heap.size w wc))
    case first => as_aux_lemma =>
      have H := HC17.out
      clear HC17
      by_cases c32 : t303 = t307
      · rw [if_pos c32] at H
        have c32b0 : (t303 == t307) = true := beq_iff_eq.mpr c32
        have c32b1 : (t303 != t307) = false := bne_eq_false_iff_eq.mpr c32
        clear c32
        (first | rw [c32b0] | (simp only [i64_w, i32_w]; rw [c32b0]) | skip)
        replace H := Option.bind_eq_some_iff.mp H
        obtain ⟨t334, A330, H⟩ := H
        replace H : (if t334 = true then (if t311 = t313 then (if t310 = t312 then (if t316 = t320 then ((spec_SameTackle.f k t315 t319).bind fun t335 => (if t335 = true then (if t327 = t329 then (if t326 = t328 then (if t331 = t333 then (if t330 = t332 then (laws_FnFewBlocks.j0 k t301 t302 t303 t310 t314 t319 t323 t326 t327 t328 t330 (t311 != t303)) else (laws_FnFewBlocks.j0 k t301 t302 t303 t310 t314 t319 t323 t326 t327 t328 t330 true)) else (laws_FnFewBlocks.j0 k t301 t302 t303 t310 t314 t319 t323 t326 t327 t328 t330 true)) else (laws_FnFewBlocks.j0 k t301 t302 t303 t310 t314 t319 t323 t326 t327 t328 t330 true)) else (laws_FnFewBlocks.j0 k t301 t302 t303 t310 t314 t319 t323 t326 t327 t328 t330 true)) else (laws_FnFewBlocks.j0 k t301 t302 t303 t310 t314 t319 t323 t326 t327 t328 t330 true))) else (laws_FnFewBlocks.j0 k t301 t302 t303 t310 t314 t319 t323 t326 t327 t328 t330 true)) else (laws_FnFewBlocks.j0 k t301 t302 t303 t310 t314 t319 t323 t326 t327 t328 t330 true)) else (laws_FnFewBlocks.j0 k t301 t302 t303 t310 t314 t319 t323 t326 t327 t328 t330 true)) else (laws_FnFewBlocks.j0 k t301 t302 t303 t310 t314 t319 t323 t326 t327 t328 t330 true)) = some r := H
        have A33 := Aside0.mk A330
        clear A330
        by_cases c34 : t334 = true
        · subst c34
          have H1 : (if t311 = t313 then (if t310 = t312 then (if t316 = t320 then ((spec_SameTackle.f k t315 t319).bind fun t335 => (if t335 = true then (if t327 = t329 then (if t326 = t328 then (if t331 = t333 then (if t330 = t332 then (laws_FnFewBlocks.j0 k t301 t302 t303 t310 t314 t319 t323 t326 t327 t328 t330 (t311 != t303)) else (laws_FnFewBlocks.j0 k t301 t302 t303 t310 t314 t319 t323 t326 t327 t328 t330 true)) else (laws_FnFewBlocks.j0 k t301 t302 t303 t310 t314 t319 t323 t326 t327 t328 t330 true)) else (laws_FnFewBlocks.j0 k t301 t302 t303 t310 t314 t319 t323 t326 t327 t328 t330 true)) else (laws_FnFewBlocks.j0 k t301 t302 t303 t310 t314 t319 t323 t326 t327 t328 t330 true)) else (laws_FnFewBlocks.j0 k t301 t302 t303 t310 t314 t319 t323 t326 t327 t328 t330 true))) else (laws_FnFewBlocks.j0 k t301 t302 t303 t310 t314 t319 t323 t326 t327 t328 t330 true)) else (laws_FnFewBlocks.j0 k t301 t302 t303 t310 t314 t319 t323 t326 t327 t328 t330 true)) else (laws_FnFewBlocks.j0 k t301 t302 t303 t310 t314 t319 t323 t326 t327 t328 t330 true)) = some r := by rw [if_pos rfl] at H; exact H
          clear H
          have H := H1
          clear H1
          by_cases c35 : t311 = t313
          · rw [if_pos c35] at H
            have c35b0 : (t311 == t313) = true := beq_iff_eq.mpr c35
            have c35b1 : (t311 != t313) = false := bne_eq_false_iff_eq.mpr c35
            clear c35
            by_cases c36 : t310 = t312
            · rw [if_pos c36] at H
              have c36b0 : (t310 == t312) = true := beq_iff_eq.mpr c36
              have c36b1 : (t310 != t312) = false := bne_eq_false_iff_eq.mpr c36
              clear c36
              by_cases c37 : t316 = t320
              · rw [if_pos c37] at H
                have c37b0 : (t316 == t320) = true := beq_iff_eq.mpr c37
                have c37b1 : (t316 != t320) = false := bne_eq_false_iff_eq.mpr c37
                clear c37
                replace H := Option.bind_eq_some_iff.mp H
                obtain ⟨t335, A380, H⟩ := H
                replace H : (if t335 = true then (if t327 = t329 then (if t326 = t328 then (if t331 = t333 then (if t330 = t332 then (laws_FnFewBlocks.j0 k t301 t302 t303 t310 t314 t319 t323 t326 t327 t328 t330 (t311 != t303)) else (laws_FnFewBlocks.j0 k t301 t302 t303 t310 t314 t319 t323 t326 t327 t328 t330 true)) else (laws_FnFewBlocks.j0 k t301 t302 t303 t310 t314 t319 t323 t326 t327 t328 t330 true)) else (laws_FnFewBlocks.j0 k t301 t302 t303 t310 t314 t319 t323 t326 t327 t328 t330 true)) else (laws_FnFewBlocks.j0 k t301 t302 t303 t310 t314 t319 t323 t326 t327 t328 t330 true)) else (laws_FnFewBlocks.j0 k t301 t302 t303 t310 t314 t319 t323 t326 t327 t328 t330 true)) = some r := H
                have A38 := Aside0.mk A380
                clear A380
                by_cases c39 : t335 = true
                · subst c39
                  have H1 : (if t327 = t329 then (if t326 = t328 then (if t331 = t333 then (if t330 = t332 then (laws_FnFewBlocks.j0 k t301 t302 t303 t310 t314 t319 t323 t326 t327 t328 t330 (t311 != t303)) else (laws_FnFewBlocks.j0 k t301 t302 t303 t310 t314 t319 t323 t326 t327 t328 t330 true)) else (laws_FnFewBlocks.j0 k t301 t302 t303 t310 t314 t319 t323 t326 t327 t328 t330 true)) else (laws_FnFewBlocks.j0 k t301 t302 t303 t310 t314 t319 t323 t326 t327 t328 t330 true)) else (laws_FnFewBlocks.j0 k t301 t302 t303 t310 t314 t319 t323 t326 t327 t328 t330 true)) = some r := by rw [if_pos rfl] at H; exact H
                  clear H
                  have H := H1
                  clear H1
                  by_cases c40 : t327 = t329
                  · rw [if_pos c40] at H
                    have c40b0 : (t327 == t329) = true := beq_iff_eq.mpr c40
                    have c40b1 : (t327 != t329) = false := bne_eq_false_iff_eq.mpr c40
                    clear c40
                    by_cases c41 : t326 = t328
                    · rw [if_pos c41] at H
                      have c41b0 : (t326 == t328) = true := beq_iff_eq.mpr c41
                      have c41b1 : (t326 != t328) = false := bne_eq_false_iff_eq.mpr c41
                      clear c41
                      by_cases c42 : t331 = t333
                      · rw [if_pos c42] at H
                        have c42b0 : (t331 == t333) = true := beq_iff_eq.mpr c42
                        have c42b1 : (t331 != t333) = false := bne_eq_false_iff_eq.mpr c42
                        clear c42
                        by_cases c43 : t330 = t332
                        · rw [if_pos c43] at H
                          have c43b0 : (t330 == t332) = true := beq_iff_eq.mpr c43
                          have c43b1 : (t330 != t332) = false := bne_eq_false_iff_eq.mpr c43
                          clear c43
                          have H' := Aside0.mk H
                          clear H
                          obtain ⟨Ao44, co44, eo44⟩ := Kd.R_slice HO305.out
                          subst eo44
                          obtain ⟨Ao45, co45, eo45⟩ := Kd.R_slice HO309.out
                          subst eo45
                          go_wp2_with (first | (go_at_call 22; (with_reducible refine (spec_SameTackle.calls k _ _ t302 _ _ t306 true _ ?side1 ?side2 ?side3 ?side4 A33.out).mono ?_); (case side1 => repeat (first | exact (Kd.R_reads' HO305.out).2.2 | (with_reducible refine Kd.C_alloc ?_ _) | (with_reducible refine Kd.C_drewN ?_ _) | (with_reducible refine Kd.C_drew ?_))); (case side2 => exact (Kd.R_reads' HO305.out).2.1); (case side3 => repeat (first | exact (Kd.R_reads' HO309.out).2.2 | (with_reducible refine Kd.C_alloc ?_ _) | (with_reducible refine Kd.C_drewN ?_ _) | (with_reducible refine Kd.C_drew ?_))); (case side4 => exact (Kd.R_reads' HO309.out).2.1); rintro e w' ⟨rfl, ⟨nd, rfl⟩⟩; obtain ⟨Ao46, co46, eo46⟩ := Kd.R_slice HO318.out; subst eo46; obtain ⟨Ao47, co47, eo47⟩ := Kd.R_slice HO322.out; subst eo47) | (go_at_call 22; (with_reducible refine (spec_SameTackle.calls k _ _ t315 _ _ t319 true _ ?side1 ?side2 ?side3 ?side4 A38.out).mono ?_); (case side1 => repeat (first | exact (Kd.R_reads' HO318.out).2.2 | (with_reducible refine Kd.C_alloc ?_ _) | (with_reducible refine Kd.C_drewN ?_ _) | (with_reducible refine Kd.C_drew ?_))); (case side2 => exact (Kd.R_reads' HO318.out).2.1); (case side3 => repeat (first | exact (Kd.R_reads' HO322.out).2.2 | (with_reducible refine Kd.C_alloc ?_ _) | (with_reducible refine Kd.C_drewN ?_ _) | (with_reducible refine Kd.C_drew ?_))); (case side4 => exact (Kd.R_reads' HO322.out).2.1); rintro e w' ⟨rfl, ⟨nd, rfl⟩⟩))
                          go_meet
                          case rel => exact ⟨_, ((t311 != t303)), (by first | rfl | (simp; done) | (simp [*]; done)), H', ⟨by first | omega | exact Nat.le_refl _⟩, ⟨by (with_reducible repeat (first | apply Kd.R_alloc | apply Kd.R_drewN | apply Kd.R_drew)); exact Kd.R_mono HO305.out (fun _ hk => ⟨hk.1.2, hk.2⟩)⟩, ⟨by (with_reducible repeat (first | apply Kd.R_alloc | apply Kd.R_drewN | apply Kd.R_drew)); exact Kd.R_mono HO322.out (fun _ hk => ⟨hk.1.1.1.2, hk.2⟩)⟩, ⟨by (with_reducible repeat (first | apply Kd.R_alloc | apply Kd.R_drewN | apply Kd.R_drew)); exact Kd.R_mono HO325.out (fun _ hk => ⟨hk.1.1.1.2, hk.2⟩)⟩, ⟨by repeat (first | (with_reducible first | exact HB.out | apply below_alloc | apply pw_below_drewN | apply below_drew1) | exact HB.out)⟩⟩
                        · rw [if_neg c43] at H
                          have c43b0 : (t330 == t332) = false := beq_eq_false_iff_ne.mpr c43
                          have c43b1 : (t330 != t332) = true := bne_iff_ne.mpr c43
                          have H' := Aside0.mk H
                          clear H
                          obtain ⟨Ao48, co48, eo48⟩ := Kd.R_slice HO305.out
                          subst eo48
                          obtain ⟨Ao49, co49, eo49⟩ := Kd.R_slice HO309.out
                          subst eo49
                          go_wp2_with (first | (go_at_call 22; (with_reducible refine (spec_SameTackle.calls k _ _ t302 _ _ t306 true _ ?side1 ?side2 ?side3 ?side4 A33.out).mono ?_); (case side1 => repeat (first | exact (Kd.R_reads' HO305.out).2.2 | (with_reducible refine Kd.C_alloc ?_ _) | (with_reducible refine Kd.C_drewN ?_ _) | (with_reducible refine Kd.C_drew ?_))); (case side2 => exact (Kd.R_reads' HO305.out).2.1); (case side3 => repeat (first | exact (Kd.R_reads' HO309.out).2.2 | (with_reducible refine Kd.C_alloc ?_ _) | (with_reducible refine Kd.C_drewN ?_ _) | (with_reducible refine Kd.C_drew ?_))); (case side4 => exact (Kd.R_reads' HO309.out).2.1); rintro e w' ⟨rfl, ⟨nd, rfl⟩⟩; obtain ⟨Ao50, co50, eo50⟩ := Kd.R_slice HO318.out; subst eo50; obtain ⟨Ao51, co51, eo51⟩ := Kd.R_slice HO322.out; subst eo51) | (go_at_call 22; (with_reducible refine (spec_SameTackle.calls k _ _ t315 _ _ t319 true _ ?side1 ?side2 ?side3 ?side4 A38.out).mono ?_); (case side1 => repeat (first | exact (Kd.R_reads' HO318.out).2.2 | (with_reducible refine Kd.C_alloc ?_ _) | (with_reducible refine Kd.C_drewN ?_ _) | (with_reducible refine Kd.C_drew ?_))); (case side2 => exact (Kd.R_reads' HO318.out).2.1); (case side3 => repeat (first | exact (Kd.R_reads' HO322.out).2.2 | (with_reducible refine Kd.C_alloc ?_ _) | (with_reducible refine Kd.C_drewN ?_ _) | (with_reducible refine Kd.C_drew ?_))); (case side4 => exact (Kd.R_reads' HO322.out).2.1); rintro e w' ⟨rfl, ⟨nd, rfl⟩⟩))
                          go_meet
                          case rel => exact ⟨_, (true), (by first | rfl | (simp; done) | (simp [*]; done)), H', ⟨by first | omega | exact Nat.le_refl _⟩, ⟨by (with_reducible repeat (first | apply Kd.R_alloc | apply Kd.R_drewN | apply Kd.R_drew)); exact Kd.R_mono HO305.out (fun _ hk => ⟨hk.1.2, hk.2⟩)⟩, ⟨by (with_reducible repeat (first | apply Kd.R_alloc | apply Kd.R_drewN | apply Kd.R_drew)); exact Kd.R_mono HO322.out (fun _ hk => ⟨hk.1.1.1.2, hk.2⟩)⟩, ⟨by (with_reducible repeat (first | apply Kd.R_alloc | apply Kd.R_drewN | apply Kd.R_drew)); exact Kd.R_mono HO325.out (fun _ hk => ⟨hk.1.1.1.2, hk.2⟩)⟩, ⟨by repeat (first | (with_reducible first | exact HB.out | apply below_alloc | apply pw_below_drewN | apply below_drew1) | exact HB.out)⟩⟩
                      · rw [if_neg c42] at H
                        have c42b0 : (t331 == t333) = false := beq_eq_false_iff_ne.mpr c42
                        have c42b1 : (t331 != t333) = true := bne_iff_ne.mpr c42
                        have H' := Aside0.mk H
                        clear H
                        obtain ⟨Ao52, co52, eo52⟩ := Kd.R_slice HO305.out
                        subst eo52
                        obtain ⟨Ao53, co53, eo53⟩ := Kd.R_slice HO309.out
                        subst eo53
                        go_wp2_with (first | (go_at_call 22; (with_reducible refine (spec_SameTackle.calls k _ _ t302 _ _ t306 true _ ?side1 ?side2 ?side3 ?side4 A33.out).mono ?_); (case side1 => repeat (first | exact (Kd.R_reads' HO305.out).2.2 | (with_reducible refine Kd.C_alloc ?_ _) | (with_reducible refine Kd.C_drewN ?_ _) | (with_reducible refine Kd.C_drew ?_))); (case side2 => exact (Kd.R_reads' HO305.out).2.1); (case side3 => repeat (first | exact (Kd.R_reads' HO309.out).2.2 | (with_reducible refine Kd.C_alloc ?_ _) | (with_reducible refine Kd.C_drewN ?_ _) | (with_reducible refine Kd.C_drew ?_))); (case side4 => exact (Kd.R_reads' HO309.out).2.1); rintro e w' ⟨rfl, ⟨nd, rfl⟩⟩; obtain ⟨Ao54, co54, eo54⟩ := Kd.R_slice HO318.out; subst eo54; obtain ⟨Ao55, co55, eo55⟩ := Kd.R_slice HO322.out; subst eo55) | (go_at_call 22; (with_reducible refine (spec_SameTackle.calls k _ _ t315 _ _ t319 true _ ?side1 ?side2 ?side3 ?side4 A38.out).mono ?_); (case side1 => repeat (first | exact (Kd.R_reads' HO318.out).2.2 | (with_reducible refine Kd.C_alloc ?_ _) | (with_reducible refine Kd.C_drewN ?_ _) | (with_reducible refine Kd.C_drew ?_))); (case side2 => exact (Kd.R_reads' HO318.out).2.1); (case side3 => repeat (first | exact (Kd.R_reads' HO322.out).2.2 | (with_reducible refine Kd.C_alloc ?_ _) | (with_reducible refine Kd.C_drewN ?_ _) | (with_reducible refine Kd.C_drew ?_))); (case side4 => exact (Kd.R_reads' HO322.out).2.1); rintro e w' ⟨rfl, ⟨nd, rfl⟩⟩))
                        go_meet
                        case rel => exact ⟨_, (true), (by first | rfl | (simp; done) | (simp [*]; done)), H', ⟨by first | omega | exact Nat.le_refl _⟩, ⟨by (with_reducible repeat (first | apply Kd.R_alloc | apply Kd.R_drewN | apply Kd.R_drew)); exact Kd.R_mono HO305.out (fun _ hk => ⟨hk.1.2, hk.2⟩)⟩, ⟨by (with_reducible repeat (first | apply Kd.R_alloc | apply Kd.R_drewN | apply Kd.R_drew)); exact Kd.R_mono HO322.out (fun _ hk => ⟨hk.1.1.1.2, hk.2⟩)⟩, ⟨by (with_reducible repeat (first | apply Kd.R_alloc | apply Kd.R_drewN | apply Kd.R_drew)); exact Kd.R_mono HO325.out (fun _ hk => ⟨hk.1.1.1.2, hk.2⟩)⟩, ⟨by repeat (first | (with_reducible first | exact HB.out | apply below_alloc | apply pw_below_drewN | apply below_drew1) | exact HB.out)⟩⟩
                    · rw [if_neg c41] at H
                      have c41b0 : (t326 == t328) = false := beq_eq_false_iff_ne.mpr c41
                      have c41b1 : (t326 != t328) = true := bne_iff_ne.mpr c41
                      have H' := Aside0.mk H
                      clear H
                      obtain ⟨Ao56, co56, eo56⟩ := Kd.R_slice HO305.out
                      subst eo56
                      obtain ⟨Ao57, co57, eo57⟩ := Kd.R_slice HO309.out
                      subst eo57
                      go_wp2_with (first | (go_at_call 22; (with_reducible refine (spec_SameTackle.calls k _ _ t302 _ _ t306 true _ ?side1 ?side2 ?side3 ?side4 A33.out).mono ?_); (case side1 => repeat (first | exact (Kd.R_reads' HO305.out).2.2 | (with_reducible refine Kd.C_alloc ?_ _) | (with_reducible refine Kd.C_drewN ?_ _) | (with_reducible refine Kd.C_drew ?_))); (case side2 => exact (Kd.R_reads' HO305.out).2.1); (case side3 => repeat (first | exact (Kd.R_reads' HO309.out).2.2 | (with_reducible refine Kd.C_alloc ?_ _) | (with_reducible refine Kd.C_drewN ?_ _) | (with_reducible refine Kd.C_drew ?_))); (case side4 => exact (Kd.R_reads' HO309.out).2.1); rintro e w' ⟨rfl, ⟨nd, rfl⟩⟩; obtain ⟨Ao58, co58, eo58⟩ := Kd.R_slice HO318.out; subst eo58; obtain ⟨Ao59, co59, eo59⟩ := Kd.R_slice HO322.out; subst eo59) | (go_at_call 22; (with_reducible refine (spec_SameTackle.calls k _ _ t315 _ _ t319 true _ ?side1 ?side2 ?side3 ?side4 A38.out).mono ?_); (case side1 => repeat (first | exact (Kd.R_reads' HO318.out).2.2 | (with_reducible refine Kd.C_alloc ?_ _) | (with_reducible refine Kd.C_drewN ?_ _) | (with_reducible refine Kd.C_drew ?_))); (case side2 => exact (Kd.R_reads' HO318.out).2.1); (case side3 => repeat (first | exact (Kd.R_reads' HO322.out).2.2 | (with_reducible refine Kd.C_alloc ?_ _) | (with_reducible refine Kd.C_drewN ?_ _) | (with_reducible refine Kd.C_drew ?_))); (case side4 => exact (Kd.R_reads' HO322.out).2.1); rintro e w' ⟨rfl, ⟨nd, rfl⟩⟩))
                      go_meet
                      case rel => exact ⟨_, (true), (by first | rfl | (simp; done) | (simp [*]; done)), H', ⟨by first | omega | exact Nat.le_refl _⟩, ⟨by (with_reducible repeat (first | apply Kd.R_alloc | apply Kd.R_drewN | apply Kd.R_drew)); exact Kd.R_mono HO305.out (fun _ hk => ⟨hk.1.2, hk.2⟩)⟩, ⟨by (with_reducible repeat (first | apply Kd.R_alloc | apply Kd.R_drewN | apply Kd.R_drew)); exact Kd.R_mono HO322.out (fun _ hk => ⟨hk.1.1.1.2, hk.2⟩)⟩, ⟨by (with_reducible repeat (first | apply Kd.R_alloc | apply Kd.R_drewN | apply Kd.R_drew)); exact Kd.R_mono HO325.out (fun _ hk => ⟨hk.1.1.1.2, hk.2⟩)⟩, ⟨by repeat (first | (with_reducible first | exact HB.out | apply below_alloc | apply pw_below_drewN | apply below_drew1) | exact HB.out)⟩⟩
                  · rw [if_neg c40] at H
                    have c40b0 : (t327 == t329) = false := beq_eq_false_iff_ne.mpr c40
                    have c40b1 : (t327 != t329) = true := bne_iff_ne.mpr c40
                    have H' := Aside0.mk H
                    clear H
                    obtain ⟨Ao60, co60, eo60⟩ := Kd.R_slice HO305.out
                    subst eo60
                    obtain ⟨Ao61, co61, eo61⟩ := Kd.R_slice HO309.out
                    subst eo61
                    go_wp2_with (first | (go_at_call 22; (with_reducible refine (spec_SameTackle.calls k _ _ t302 _ _ t306 true _ ?side1 ?side2 ?side3 ?side4 A33.out).mono ?_); (case side1 => repeat (first | exact (Kd.R_reads' HO305.out).2.2 | (with_reducible refine Kd.C_alloc ?_ _) | (with_reducible refine Kd.C_drewN ?_ _) | (with_reducible refine Kd.C_drew ?_))); (case side2 => exact (Kd.R_reads' HO305.out).2.1); (case side3 => repeat (first | exact (Kd.R_reads' HO309.out).2.2 | (with_reducible refine Kd.C_alloc ?_ _) | (with_reducible refine Kd.C_drewN ?_ _) | (with_reducible refine Kd.C_drew ?_))); (case side4 => exact (Kd.R_reads' HO309.out).2.1); rintro e w' ⟨rfl, ⟨nd, rfl⟩⟩; obtain ⟨Ao62, co62, eo62⟩ := Kd.R_slice HO318.out; subst eo62; obtain ⟨Ao63, co63, eo63⟩ := Kd.R_slice HO322.out; subst eo63) | (go_at_call 22; (with_reducible refine (spec_SameTackle.calls k _ _ t315 _ _ t319 true _ ?side1 ?side2 ?side3 ?side4 A38.out).mono ?_); (case side1 => repeat (first | exact (Kd.R_reads' HO318.out).2.2 | (with_reducible refine Kd.C_alloc ?_ _) | (with_reducible refine Kd.C_drewN ?_ _) | (with_reducible refine Kd.C_drew ?_))); (case side2 => exact (Kd.R_reads' HO318.out).2.1); (case side3 => repeat (first | exact (Kd.R_reads' HO322.out).2.2 | (with_reducible refine Kd.C_alloc ?_ _) | (with_reducible refine Kd.C_drewN ?_ _) | (with_reducible refine Kd.C_drew ?_))); (case side4 => exact (Kd.R_reads' HO322.out).2.1); rintro e w' ⟨rfl, ⟨nd, rfl⟩⟩))
                    go_meet
                    case rel => exact ⟨_, (true), (by first | rfl | (simp; done) | (simp [*]; done)), H', ⟨by first | omega | exact Nat.le_refl _⟩, ⟨by (with_reducible repeat (first | apply Kd.R_alloc | apply Kd.R_drewN | apply Kd.R_drew)); exact Kd.R_mono HO305.out (fun _ hk => ⟨hk.1.2, hk.2⟩)⟩, ⟨by (with_reducible repeat (first | apply Kd.R_alloc | apply Kd.R_drewN | apply Kd.R_drew)); exact Kd.R_mono HO322.out (fun _ hk => ⟨hk.1.1.1.2, hk.2⟩)⟩, ⟨by (with_reducible repeat (first | apply Kd.R_alloc | apply Kd.R_drewN | apply Kd.R_drew)); exact Kd.R_mono HO325.out (fun _ hk => ⟨hk.1.1.1.2, hk.2⟩)⟩, ⟨by repeat (first | (with_reducible first | exact HB.out | apply below_alloc | apply pw_below_drewN | apply below_drew1) | exact HB.out)⟩⟩
                · replace c39 := Bool.eq_false_iff.mpr c39
                  subst c39
                  have H1 : (laws_FnFewBlocks.j0 k t301 t302 t303 t310 t314 t319 t323 t326 t327 t328 t330 true) = some r := by rw [if_neg (show ¬ (false = true) by decide)] at H; exact H
                  clear H
                  have H := H1
                  clear H1
                  have H' := Aside0.mk H
                  clear H
                  obtain ⟨Ao64, co64, eo64⟩ := Kd.R_slice HO305.out
                  subst eo64
                  obtain ⟨Ao65, co65, eo65⟩ := Kd.R_slice HO309.out
                  subst eo65
                  go_wp2_with (first | (go_at_call 22; (with_reducible refine (spec_SameTackle.calls k _ _ t302 _ _ t306 true _ ?side1 ?side2 ?side3 ?side4 A33.out).mono ?_); (case side1 => repeat (first | exact (Kd.R_reads' HO305.out).2.2 | (with_reducible refine Kd.C_alloc ?_ _) | (with_reducible refine Kd.C_drewN ?_ _) | (with_reducible refine Kd.C_drew ?_))); (case side2 => exact (Kd.R_reads' HO305.out).2.1); (case side3 => repeat (first | exact (Kd.R_reads' HO309.out).2.2 | (with_reducible refine Kd.C_alloc ?_ _) | (with_reducible refine Kd.C_drewN ?_ _) | (with_reducible refine Kd.C_drew ?_))); (case side4 => exact (Kd.R_reads' HO309.out).2.1); rintro e w' ⟨rfl, ⟨nd, rfl⟩⟩; obtain ⟨Ao66, co66, eo66⟩ := Kd.R_slice HO318.out; subst eo66; obtain ⟨Ao67, co67, eo67⟩ := Kd.R_slice HO322.out; subst eo67) | (go_at_call 22; (with_reducible refine (spec_SameTackle.calls k _ _ t315 _ _ t319 false _ ?side1 ?side2 ?side3 ?side4 A38.out).mono ?_); (case side1 => repeat (first | exact (Kd.R_reads' HO318.out).2.2 | (with_reducible refine Kd.C_alloc ?_ _) | (with_reducible refine Kd.C_drewN ?_ _) | (with_reducible refine Kd.C_drew ?_))); (case side2 => exact (Kd.R_reads' HO318.out).2.1); (case side3 => repeat (first | exact (Kd.R_reads' HO322.out).2.2 | (with_reducible refine Kd.C_alloc ?_ _) | (with_reducible refine Kd.C_drewN ?_ _) | (with_reducible refine Kd.C_drew ?_))); (case side4 => exact (Kd.R_reads' HO322.out).2.1); rintro e w' ⟨rfl, ⟨nd, rfl⟩⟩))
                  go_meet
                  case rel => exact ⟨_, (true), (by first | rfl | (simp; done) | (simp [*]; done)), H', ⟨by first | omega | exact Nat.le_refl _⟩, ⟨by (with_reducible repeat (first | apply Kd.R_alloc | apply Kd.R_drewN | apply Kd.R_drew)); exact Kd.R_mono HO305.out (fun _ hk => ⟨hk.1.2, hk.2⟩)⟩, ⟨by (with_reducible repeat (first | apply Kd.R_alloc | apply Kd.R_drewN | apply Kd.R_drew)); exact Kd.R_mono HO322.out (fun _ hk => ⟨hk.1.1.1.2, hk.2⟩)⟩, ⟨by (with_reducible repeat (first | apply Kd.R_alloc | apply Kd.R_drewN | apply Kd.R_drew)); exact Kd.R_mono HO325.out (fun _ hk => ⟨hk.1.1.1.2, hk.2⟩)⟩, ⟨by repeat (first | (with_reducible first | exact HB.out | apply below_alloc | apply pw_below_drewN | apply below_drew1) | exact HB.out)⟩⟩
              · rw [if_neg c37] at H
                have c37b0 : (t316 == t320) = false := beq_eq_false_iff_ne.mpr c37
                have c37b1 : (t316 != t320) = true := bne_iff_ne.mpr c37
                have H' := Aside0.mk H
                clear H
                obtain ⟨Ao68, co68, eo68⟩ := Kd.R_slice HO305.out
                subst eo68
                obtain ⟨Ao69, co69, eo69⟩ := Kd.R_slice HO309.out
                subst eo69
                go_wp2_with (first | (go_at_call 22; (with_reducible refine (spec_SameTackle.calls k _ _ t302 _ _ t306 true _ ?side1 ?side2 ?side3 ?side4 A33.out).mono ?_); (case side1 => repeat (first | exact (Kd.R_reads' HO305.out).2.2 | (with_reducible refine Kd.C_alloc ?_ _) | (with_reducible refine Kd.C_drewN ?_ _) | (with_reducible refine Kd.C_drew ?_))); (case side2 => exact (Kd.R_reads' HO305.out).2.1); (case side3 => repeat (first | exact (Kd.R_reads' HO309.out).2.2 | (with_reducible refine Kd.C_alloc ?_ _) | (with_reducible refine Kd.C_drewN ?_ _) | (with_reducible refine Kd.C_drew ?_))); (case side4 => exact (Kd.R_reads' HO309.out).2.1); rintro e w' ⟨rfl, ⟨nd, rfl⟩⟩))
                go_meet
                case rel => exact ⟨_, (true), (by first | rfl | (simp; done) | (simp [*]; done)), H', ⟨by first | omega | exact Nat.le_refl _⟩, ⟨by (with_reducible repeat (first | apply Kd.R_alloc | apply Kd.R_drewN | apply Kd.R_drew)); exact Kd.R_mono HO305.out (fun _ hk => ⟨hk.1.2, hk.2⟩)⟩, ⟨by (with_reducible repeat (first | apply Kd.R_alloc | apply Kd.R_drewN | apply Kd.R_drew)); exact Kd.R_mono HO322.out (fun _ hk => ⟨hk.1.1.1.2, hk.2⟩)⟩, ⟨by (with_reducible repeat (first | apply Kd.R_alloc | apply Kd.R_drewN | apply Kd.R_drew)); exact Kd.R_mono HO325.out (fun _ hk => ⟨hk.1.1.1.2, hk.2⟩)⟩, ⟨by repeat (first | (with_reducible first | exact HB.out | apply below_alloc | apply pw_below_drewN | apply below_drew1) | exact HB.out)⟩⟩
            · rw [if_neg c36] at H
              have c36b0 : (t310 == t312) = false := beq_eq_false_iff_ne.mpr c36
              have c36b1 : (t310 != t312) = true := bne_iff_ne.mpr c36
              have H' := Aside0.mk H
              clear H
              obtain ⟨Ao70, co70, eo70⟩ := Kd.R_slice HO305.out
              subst eo70
              obtain ⟨Ao71, co71, eo71⟩ := Kd.R_slice HO309.out
              subst eo71
              go_wp2_with (first | (go_at_call 22; (with_reducible refine (spec_SameTackle.calls k _ _ t302 _ _ t306 true _ ?side1 ?side2 ?side3 ?side4 A33.out).mono ?_); (case side1 => repeat (first | exact (Kd.R_reads' HO305.out).2.2 | (with_reducible refine Kd.C_alloc ?_ _) | (with_reducible refine Kd.C_drewN ?_ _) | (with_reducible refine Kd.C_drew ?_))); (case side2 => exact (Kd.R_reads' HO305.out).2.1); (case side3 => repeat (first | exact (Kd.R_reads' HO309.out).2.2 | (with_reducible refine Kd.C_alloc ?_ _) | (with_reducible refine Kd.C_drewN ?_ _) | (with_reducible refine Kd.C_drew ?_))); (case side4 => exact (Kd.R_reads' HO309.out).2.1); rintro e w' ⟨rfl, ⟨nd, rfl⟩⟩))
              go_meet
              case rel => exact ⟨_, (true), (by first | rfl | (simp; done) | (simp [*]; done)), H', ⟨by first | omega | exact Nat.le_refl _⟩, ⟨by (with_reducible repeat (first | apply Kd.R_alloc | apply Kd.R_drewN | apply Kd.R_drew)); exact Kd.R_mono HO305.out (fun _ hk => ⟨hk.1.2, hk.2⟩)⟩, ⟨by (with_reducible repeat (first | apply Kd.R_alloc | apply Kd.R_drewN | apply Kd.R_drew)); exact Kd.R_mono HO322.out (fun _ hk => ⟨hk.1.1.1.2, hk.2⟩)⟩, ⟨by (with_reducible repeat (first | apply Kd.R_alloc | apply Kd.R_drewN | apply Kd.R_drew)); exact Kd.R_mono HO325.out (fun _ hk => ⟨hk.1.1.1.2, hk.2⟩)⟩, ⟨by repeat (first | (with_reducible first | exact HB.out | apply below_alloc | apply pw_below_drewN | apply below_drew1) | exact HB.out)⟩⟩
          · rw [if_neg c35] at H
            have c35b0 : (t311 == t313) = false := beq_eq_false_iff_ne.mpr c35
            have c35b1 : (t311 != t313) = true := bne_iff_ne.mpr c35
            have H' := Aside0.mk H
            clear H
            obtain ⟨Ao72, co72, eo72⟩ := Kd.R_slice HO305.out
            subst eo72
            obtain ⟨Ao73, co73, eo73⟩ := Kd.R_slice HO309.out
            subst eo73
            go_wp2_with (first | (go_at_call 22; (with_reducible refine (spec_SameTackle.calls k _ _ t302 _ _ t306 true _ ?side1 ?side2 ?side3 ?side4 A33.out).mono ?_); (case side1 => repeat (first | exact (Kd.R_reads' HO305.out).2.2 | (with_reducible refine Kd.C_alloc ?_ _) | (with_reducible refine Kd.C_drewN ?_ _) | (with_reducible refine Kd.C_drew ?_))); (case side2 => exact (Kd.R_reads' HO305.out).2.1); (case side3 => repeat (first | exact (Kd.R_reads' HO309.out).2.2 | (with_reducible refine Kd.C_alloc ?_ _) | (with_reducible refine Kd.C_drewN ?_ _) | (with_reducible refine Kd.C_drew ?_))); (case side4 => exact (Kd.R_reads' HO309.out).2.1); rintro e w' ⟨rfl, ⟨nd, rfl⟩⟩))
            go_meet
            case rel => exact ⟨_, (true), (by first | rfl | (simp; done) | (simp [*]; done)), H', ⟨by first | omega | exact Nat.le_refl _⟩, ⟨by (with_reducible repeat (first | apply Kd.R_alloc | apply Kd.R_drewN | apply Kd.R_drew)); exact Kd.R_mono HO305.out (fun _ hk => ⟨hk.1.2, hk.2⟩)⟩, ⟨by (with_reducible repeat (first | apply Kd.R_alloc | apply Kd.R_drewN | apply Kd.R_drew)); exact Kd.R_mono HO322.out (fun _ hk => ⟨hk.1.1.1.2, hk.2⟩)⟩, ⟨by (with_reducible repeat (first | apply Kd.R_alloc | apply Kd.R_drewN | apply Kd.R_drew)); exact Kd.R_mono HO325.out (fun _ hk => ⟨hk.1.1.1.2, hk.2⟩)⟩, ⟨by repeat (first | (with_reducible first | exact HB.out | apply below_alloc | apply pw_below_drewN | apply below_drew1) | exact HB.out)⟩⟩
        · replace c34 := Bool.eq_false_iff.mpr c34
          subst c34
          have H1 : (laws_FnFewBlocks.j0 k t301 t302 t303 t310 t314 t319 t323 t326 t327 t328 t330 true) = some r := by rw [if_neg (show ¬ (false = true) by decide)] at H; exact H
          clear H
          have H := H1
          clear H1
          have H' := Aside0.mk H
          clear H
          obtain ⟨Ao74, co74, eo74⟩ := Kd.R_slice HO305.out
          subst eo74
          obtain ⟨Ao75, co75, eo75⟩ := Kd.R_slice HO309.out
          subst eo75
          go_wp2_with (first | (go_at_call 22; (with_reducible refine (spec_SameTackle.calls k _ _ t302 _ _ t306 false _ ?side1 ?side2 ?side3 ?side4 A33.out).mono ?_); (case side1 => repeat (first | exact (Kd.R_reads' HO305.out).2.2 | (with_reducible refine Kd.C_alloc ?_ _) | (with_reducible refine Kd.C_drewN ?_ _) | (with_reducible refine Kd.C_drew ?_))); (case side2 => exact (Kd.R_reads' HO305.out).2.1); (case side3 => repeat (first | exact (Kd.R_reads' HO309.out).2.2 | (with_reducible refine Kd.C_alloc ?_ _) | (with_reducible refine Kd.C_drewN ?_ _) | (with_reducible refine Kd.C_drew ?_))); (case side4 => exact (Kd.R_reads' HO309.out).2.1); rintro e w' ⟨rfl, ⟨nd, rfl⟩⟩))
          go_meet
          case rel => exact ⟨_, (true), (by first | rfl | (simp; done) | (simp [*]; done)), H', ⟨by first | omega | exact Nat.le_refl _⟩, ⟨by (with_reducible repeat (first | apply Kd.R_alloc | apply Kd.R_drewN | apply Kd.R_drew)); exact Kd.R_mono HO305.out (fun _ hk => ⟨hk.1.2, hk.2⟩)⟩, ⟨by (with_reducible repeat (first | apply Kd.R_alloc | apply Kd.R_drewN | apply Kd.R_drew)); exact Kd.R_mono HO322.out (fun _ hk => ⟨hk.1.1.1.2, hk.2⟩)⟩, ⟨by (with_reducible repeat (first | apply Kd.R_alloc | apply Kd.R_drewN | apply Kd.R_drew)); exact Kd.R_mono HO325.out (fun _ hk => ⟨hk.1.1.1.2, hk.2⟩)⟩, ⟨by repeat (first | (with_reducible first | exact HB.out | apply below_alloc | apply pw_below_drewN | apply below_drew1) | exact HB.out)⟩⟩
      · rw [if_neg c32] at H
        have c32b0 : (t303 == t307) = false := beq_eq_false_iff_ne.mpr c32
        have c32b1 : (t303 != t307) = true := bne_iff_ne.mpr c32
        (first | rw [c32b0] | (simp only [i64_w, i32_w]; rw [c32b0]) | skip)
        have H' := Aside0.mk H
        clear H
        go_wp2
        go_meet
        case rel => exact ⟨_, (true), (by first | rfl | (simp; done) | (simp [*]; done)), H', ⟨by first | omega | exact Nat.le_refl _⟩, ⟨by (with_reducible repeat (first | apply Kd.R_alloc | apply Kd.R_drewN | apply Kd.R_drew)); exact Kd.R_mono HO305.out (fun _ hk => ⟨hk.1.2, hk.2⟩)⟩, ⟨by (with_reducible repeat (first | apply Kd.R_alloc | apply Kd.R_drewN | apply Kd.R_drew)); exact Kd.R_mono HO322.out (fun _ hk => ⟨hk.1.1.1.2, hk.2⟩)⟩, ⟨by (with_reducible repeat (first | apply Kd.R_alloc | apply Kd.R_drewN | apply Kd.R_drew)); exact Kd.R_mono HO325.out (fun _ hk => ⟨hk.1.1.1.2, hk.2⟩)⟩, ⟨by repeat (first | (with_reducible first | exact HB.out | apply below_alloc | apply pw_below_drewN | apply below_drew1) | exact HB.out)⟩⟩
    case rest => as_aux_lemma =>
      clear HC17
      try clear c1
      try clear c2
      try clear p2
      try clear c3
      try clear c4
      try clear c5
      try clear c6
      try clear c10
      try clear c11
      try clear c12
      try clear c13
      try clear c14
      try clear c15
      try clear c16
      try clear c17
      try clear c18
      try clear c19
      try clear c20
      try clear c21
      try clear c32
      try clear c32b0
      try clear c32b1
      try clear c34
      try clear c35
      try clear c35b0
      try clear c35b1
      try clear c36
      try clear c36b0
      try clear c36b1
      try clear c37
      try clear c37b0
      try clear c37b1
      try clear c39
      try clear c40
      try clear c40b0
      try clear c40b1
      try clear c41
      try clear c41b0
      try clear c41b1
      try clear c42
      try clear c42b0
      try clear c42b1
      try clear c43
      try clear c43b0
      try clear c43b1
      obtain ⟨kq, x149_16, rfl, HA, HJ16, HO_4, HO_15, HO_17, HB⟩ := hcut
      cases kq with
      | zero => exact absurd HA.out (by simp [laws_FnFewBlocks.j0])
      | succ kj16 =>
        have H := HA.out
        clear HA
        simp only [laws_FnFewBlocks.j0] at H
        by_cases c76 : x149_16 = true
        · subst c76
          have H1 : (some false) = some r := by rw [if_pos rfl] at H; exact H
          clear H
          have H := H1
          clear H1
          obtain rfl := Option.some.inj H
          go_wp2
          go_ret
          exact ⟨by first | rfl | (simp [errW_none, errW_some] <;> rfl) | (simp [*, errW_none, errW_some] <;> rfl), by repeat (first | (with_reducible first | exact HB.out | apply below_alloc | apply pw_below_drewN | apply below_drew1) | exact HB.out)⟩
        · replace c76 := Bool.eq_false_iff.mpr c76
          subst c76
          have H1 : (laws_FnFewBlocks.l0 kj16 t301 t302 t303 t310 t314 t319 t323 t326 t327 t328 t330 0) = some r := by rw [if_neg (show ¬ (false = true) by decide)] at H; exact H
          clear H
          have H := H1
          clear H1
          have H' := Aside0.mk H
          clear H
          go_wp2
          go_loopg [26] kj16 (fun kq v26 w' => ∃ (x26_2 : Int), v26 = .int .i64 x26_2 ∧ Aside0 (laws_FnFewBlocks.l0 kq t301 t302 t303 t310 t314 t319 t323 t326 t327 t328 t330 x26_2 = some r) ∧ Aside0 (kq ≤ kj16) ∧ Aside0 (Kd.R k39 39 w' w.heap.size (fun k_ => some k_ ≠ (v321 : Value).ownBlock ∧ some k_ ≠ ((.slice Ao27 t323.length co27) : Value).ownBlock) v304 t302) ∧ Aside0 (Kd.R k39 39 w' w.heap.size (fun k_ => some k_ ≠ (v304 : Value).ownBlock ∧ some k_ ≠ ((.slice Ao27 t323.length co27) : Value).ownBlock) v321 t319) ∧ Aside0 (Kd.R k39 39 w' w.heap.size (fun k_ => some k_ ≠ (v304 : Value).ownBlock ∧ some k_ ≠ (v321 : Value).ownBlock) (.slice Ao27 t323.length co27) t323) ∧ Aside0 (Below w.heap.size w w'))
          case atStart => exact ⟨(0), (by first | rfl | (simp; done) | (simp [*]; done)), H', ⟨Nat.le_refl _⟩, ⟨by (with_reducible repeat (first | apply Kd.R_alloc | apply Kd.R_drewN | apply Kd.R_drew)); exact HO_4.out⟩, ⟨by (with_reducible repeat (first | apply Kd.R_alloc | apply Kd.R_drewN | apply Kd.R_drew)); exact HO_15.out⟩, ⟨by (with_reducible repeat (first | apply Kd.R_alloc | apply Kd.R_drewN | apply Kd.R_drew)); exact HO_17.out⟩, ⟨by repeat (first | (with_reducible first | exact HB.out | apply below_alloc | apply pw_below_drewN | apply below_drew1) | exact HB.out)⟩⟩
          case round => as_aux_lemma =>
            clear H'
            try clear c1
            try clear c2
            try clear p2
            try clear c3
            try clear c4
            try clear c5
            try clear c6
            try clear c7
            try clear c10
            try clear c11
            try clear c12
            try clear c13
            try clear c14
            try clear c15
            try clear c16
            try clear c17
            try clear c18
            try clear c19
            try clear c20
            try clear c21
            try clear c32
            try clear c32b0
            try clear c32b1
            try clear c34
            try clear c35
            try clear c35b0
            try clear c35b1
            try clear c36
            try clear c36b0
            try clear c36b1
            try clear c37
            try clear c37b0
            try clear c37b1
            try clear c39
            try clear c40
            try clear c40b0
            try clear c40b1
            try clear c41
            try clear c41b0
            try clear c41b1
            try clear c42
            try clear c42b0
            try clear c42b1
            try clear c43
            try clear c43b0
            try clear c43b1
            try clear c76
            try clear p2
            obtain ⟨x26_2, rfl, HA, HK2, HO_4, HO_15, HO_17, HB⟩ := hrel
            cases gk with
            | zero => exact absurd HA.out (by simp [laws_FnFewBlocks.l0])
            | succ k2 =>
              have H := HA.out
              clear HA
              simp only [laws_FnFewBlocks.l0] at H
              by_cases c77 : x26_2 < (t319.length : Int)
              · rw [if_pos c77] at H
                have c77b0 : decide (x26_2 < (t319.length : Int)) = true := decide_eq_true c77
                clear c77
                by_cases c78 : 0 ≤ x26_2
                · rw [if_pos c78] at H
                  have c78b0 := eq_true c78
                  have c78b1 : decide (0 ≤ x26_2) = true := decide_eq_true c78
                  clear c78
                  by_cases c79 : x26_2 ≤ (wrap64 (x26_2 + 1))
                  · rw [if_pos c79] at H
                    have c79b0 := eq_true c79
                    have c79b1 : decide (x26_2 ≤ (wrap64 (x26_2 + 1))) = true := decide_eq_true c79
                    by_cases c80 : (wrap64 (x26_2 + 1)) ≤ (t319.length : Int)
                    · rw [if_pos c80] at H
                      have c80b0 := eq_true c80
                      have c80b1 : decide ((wrap64 (x26_2 + 1)) ≤ (t319.length : Int)) = true := decide_eq_true c80
                      obtain ⟨y336, hy336⟩ : ∃ y_ : List (S39), y_ = ((t319.take ((wrap64 (x26_2 + 1)) : Int).toNat).drop (x26_2 : Int).toNat) := ⟨_, rfl⟩
                      replace H : ((impl_AdvantageOf.f k2 y336).bind fun bt340 => (if bt340.2 = 0 then (if bt340.1 = t314 then (laws_FnFewBlocks.l0 k2 t301 t302 t303 t310 t314 t319 t323 t326 t327 t328 t330 (wrap64 (x26_2 + 1))) else (some false)) else (some false))) = some r := by first | (rw [hy336]; with_reducible exact H) | (have H2_ := (Option.bind_some _ _).symm.trans H; rw [hy336]; with_reducible exact H2_) | (have H2_ := (Option.bind_some _ _).symm.trans H; with_reducible exact H2_) | with_reducible exact H | (rw [hy336]; exact H) | exact H
                      have Ny336 := Aside0.mk hy336
                      clear hy336
                      replace H := Option.bind_eq_some_iff.mp H
                      obtain ⟨⟨t340, t341⟩, A810, H⟩ := H
                      replace H : (if t341 = 0 then (if t340 = t314 then (laws_FnFewBlocks.l0 k2 t301 t302 t303 t310 t314 t319 t323 t326 t327 t328 t330 (wrap64 (x26_2 + 1))) else (some false)) else (some false)) = some r := H
                      have A81 := Aside0.mk A810
                      clear A810
                      by_cases c82 : t341 = 0
                      · rw [if_pos c82] at H
                        have c82b0 : (t341 == 0) = true := beq_iff_eq.mpr c82
                        have c82b1 : (t341 != 0) = false := bne_eq_false_iff_eq.mpr c82
                        clear c82
                        by_cases c83 : t340 = t314
                        · rw [if_pos c83] at H
                          have c83b0 : (t340 == t314) = true := beq_iff_eq.mpr c83
                          have c83b1 : (t340 != t314) = false := bne_eq_false_iff_eq.mpr c83
                          clear c83
                          have H' := Aside0.mk H
                          clear H
                          obtain ⟨Ao84, co84, eo84⟩ := Kd.R_slice HO_15.out
                          subst eo84
                          have q85 : ((wrap64 (x26_2 + 1)) : Int) ≤ ((t319.length : Int) : Int) := of_decide_eq_true (by first | (with_reducible assumption) | assumption)
                          obtain ⟨i085, hi085, _, hsz85, _⟩ := info_parts info39
                          have hroom85 : t319.length ≤ co84 := (Kd.R_reads' HO_15.out).2.1
                          have hC85 : Kd.C k39 _ Ao84 t319.length t319 := (Kd.R_reads' HO_15.out).2.2
                          have ql85 : (x26_2 : Int) ≤ ((wrap64 (x26_2 + 1)) : Int) := of_decide_eq_true (by first | (with_reducible assumption) | assumption)
                          have q085 : (0 : Int) ≤ (x26_2 : Int) := of_decide_eq_true (by first | (with_reducible assumption) | assumption)
                          have hcut85 := cut_mid (P := Try.prog) 22 39 .i64 .i64 Try.underlying22 hi085 3 hsz85 Ao84 t319.length co84 x26_2 (wrap64 (x26_2 + 1)) q085 ql85 q85 hroom85
                          have hr85 := Kd.C_mid (lo := (x26_2 : Int).toNat) (hi := ((wrap64 (x26_2 + 1)) : Int).toNat) (c := co84) hC85 (by omega) (by omega) hroom85
                          obtain ⟨A85, hA85⟩ : ∃ A1, A1 = (if co84 = (x26_2 : Int).toNat then Ao84 else (Ao84 : Option Addr).map (·.add ((x26_2 : Int).toNat * 3))) := ⟨_, rfl⟩
                          obtain ⟨c85, hc85⟩ : ∃ c1, c1 = co84 - (x26_2 : Int).toNat := ⟨_, rfl⟩
                          have hy85 : y336.length = ((wrap64 (x26_2 + 1)) : Int).toNat - (x26_2 : Int).toNat := (by rw [Ny336.out, List.length_drop, List.length_take] <;> omega)
                          rw [show ((t319).take ((wrap64 (x26_2 + 1)) : Int).toNat).drop (x26_2 : Int).toNat = y336 from Ny336.out.symm] at hr85
                          replace hr85 : Kd.C k39 _ A85 y336.length y336 := (by rw [hA85]; exact hr85)
                          rw [← hy85, ← hA85, ← hc85] at hcut85
                          have HR339 := Aside0.mk hr85
                          have HC339 := Aside0.mk (show y336.length ≤ c85 from by rw [hy85, hc85]; exact Nat.sub_le_sub_right (Nat.le_trans (by omega) hroom85) _)
                          clear hr85 hC85 hroom85 hi085 hsz85 hc85
                          have KY85 := Aside0.mk hy85
                          have KA85 := Aside0.mk hA85
                          clear hy85 hA85
                          have KL85 := Aside0.mk (show ((wrap64 (x26_2 + 1)) : Int).toNat ≤ t319.length from by omega)
                          have KM85 := Aside0.mk (show (x26_2 : Int).toNat ≤ ((wrap64 (x26_2 + 1)) : Int).toNat from by omega)
                          replace q85 := eq_true q85
                          go_wp2_with (first | ((with_reducible refine gate_callee (f := 23) rfl ?_); refine goesL_ (some 162) rfl rfl Try.func23 (by kernel_rfl) rfl #[.slice A85 y336.length c85] rfl (by (try simp only [List.map_toArray, List.map_cons, List.map_nil]); first | done | rfl | (simp only [List.length_drop, List.length_take]; rfl)) ?_; (with_reducible refine (impl_AdvantageOf.calls k2 _ _ y336 t340 t341 _ ?side1 ?side2 A81.out).mono ?_); (case side1 => repeat (first | exact (by repeat (first | (with_reducible exact HR339.out) | (with_reducible refine Kd.C_alloc ?_ _) | (with_reducible refine Kd.C_drewN ?_ _) | (with_reducible refine Kd.C_drew ?_) | exact HR339.out)) | (with_reducible refine Kd.C_alloc ?_ _) | (with_reducible refine Kd.C_drewN ?_ _) | (with_reducible refine Kd.C_drew ?_))); (case side2 => exact HC339.out); rintro e w86 ⟨rfl, hb⟩; refine ⟨_, rfl, ?_⟩; have n0_ := Aside0.mk (Kd.R_below (by (with_reducible repeat (first | apply Kd.R_alloc | apply Kd.R_drewN | apply Kd.R_drew)); exact HO_4.out) hb); have n1_ := Aside0.mk (Kd.R_below (by (with_reducible repeat (first | apply Kd.R_alloc | apply Kd.R_drewN | apply Kd.R_drew)); exact HO_15.out) hb); have n2_ := Aside0.mk (Kd.R_below (by (with_reducible repeat (first | apply Kd.R_alloc | apply Kd.R_drewN | apply Kd.R_drew)); exact HO_17.out) hb); have n3_ := Aside0.mk (Kd.C_below (by repeat (first | (with_reducible exact HR339.out) | (with_reducible refine Kd.C_alloc ?_ _) | (with_reducible refine Kd.C_drewN ?_ _) | (with_reducible refine Kd.C_drew ?_) | exact HR339.out)) hb); have n4_ := Aside0.mk (below_step (by repeat (first | (with_reducible first | exact HB.out | apply below_alloc | apply pw_below_drewN | apply below_drew1) | exact HB.out)) hb); clear HO_4; clear HO_15; clear HO_17; clear HR339; clear HB; have HO_4 := n0_; have HO_15 := n1_; have HO_17 := n2_; have HR339 := n3_; have HB := n4_; clear n0_ n1_ n2_ n3_ n4_; (try clear hb); (try clear hb2); (try clear hk); (try clear hi)))
                          go_roundg k2
                          case measure => have := HJ16.out; have := HK2.out; omega
                          case rel => exact ⟨(wrap64 (x26_2 + 1)), (by first | rfl | (simp; done) | (simp [*]; done)), H', ⟨by have := HJ16.out; have := HK2.out; omega⟩, ⟨by (with_reducible repeat (first | apply Kd.R_alloc | apply Kd.R_drewN | apply Kd.R_drew)); exact HO_4.out⟩, ⟨by (with_reducible repeat (first | apply Kd.R_alloc | apply Kd.R_drewN | apply Kd.R_drew)); exact HO_15.out⟩, ⟨by (with_reducible repeat (first | apply Kd.R_alloc | apply Kd.R_drewN | apply Kd.R_drew)); exact HO_17.out⟩, ⟨by repeat (first | (with_reducible first | exact HB.out | apply below_alloc | apply pw_below_drewN | apply below_drew1) | exact HB.out)⟩⟩
                        · rw [if_neg c83] at H
                          have c83b0 : (t340 == t314) = false := beq_eq_false_iff_ne.mpr c83
                          have c83b1 : (t340 != t314) = true := bne_iff_ne.mpr c83
                          obtain rfl := Option.some.inj H
                          obtain ⟨Ao87, co87, eo87⟩ := Kd.R_slice HO_15.out
                          subst eo87
                          have q88 : ((wrap64 (x26_2 + 1)) : Int) ≤ ((t319.length : Int) : Int) := of_decide_eq_true (by first | (with_reducible assumption) | assumption)
                          obtain ⟨i088, hi088, _, hsz88, _⟩ := info_parts info39
                          have hroom88 : t319.length ≤ co87 := (Kd.R_reads' HO_15.out).2.1
                          have hC88 : Kd.C k39 _ Ao87 t319.length t319 := (Kd.R_reads' HO_15.out).2.2
                          have ql88 : (x26_2 : Int) ≤ ((wrap64 (x26_2 + 1)) : Int) := of_decide_eq_true (by first | (with_reducible assumption) | assumption)
                          have q088 : (0 : Int) ≤ (x26_2 : Int) := of_decide_eq_true (by first | (with_reducible assumption) | assumption)
                          have hcut88 := cut_mid (P := Try.prog) 22 39 .i64 .i64 Try.underlying22 hi088 3 hsz88 Ao87 t319.length co87 x26_2 (wrap64 (x26_2 + 1)) q088 ql88 q88 hroom88
                          have hr88 := Kd.C_mid (lo := (x26_2 : Int).toNat) (hi := ((wrap64 (x26_2 + 1)) : Int).toNat) (c := co87) hC88 (by omega) (by omega) hroom88
                          obtain ⟨A88, hA88⟩ : ∃ A1, A1 = (if co87 = (x26_2 : Int).toNat then Ao87 else (Ao87 : Option Addr).map (·.add ((x26_2 : Int).toNat * 3))) := ⟨_, rfl⟩
                          obtain ⟨c88, hc88⟩ : ∃ c1, c1 = co87 - (x26_2 : Int).toNat := ⟨_, rfl⟩
                          have hy88 : y336.length = ((wrap64 (x26_2 + 1)) : Int).toNat - (x26_2 : Int).toNat := (by rw [Ny336.out, List.length_drop, List.length_take] <;> omega)
                          rw [show ((t319).take ((wrap64 (x26_2 + 1)) : Int).toNat).drop (x26_2 : Int).toNat = y336 from Ny336.out.symm] at hr88
                          replace hr88 : Kd.C k39 _ A88 y336.length y336 := (by rw [hA88]; exact hr88)
                          rw [← hy88, ← hA88, ← hc88] at hcut88
                          have HR339 := Aside0.mk hr88
                          have HC339 := Aside0.mk (show y336.length ≤ c88 from by rw [hy88, hc88]; exact Nat.sub_le_sub_right (Nat.le_trans (by omega) hroom88) _)
                          clear hr88 hC88 hroom88 hi088 hsz88 hc88
                          have KY88 := Aside0.mk hy88
                          have KA88 := Aside0.mk hA88
                          clear hy88 hA88
                          have KL88 := Aside0.mk (show ((wrap64 (x26_2 + 1)) : Int).toNat ≤ t319.length from by omega)
                          have KM88 := Aside0.mk (show (x26_2 : Int).toNat ≤ ((wrap64 (x26_2 + 1)) : Int).toNat from by omega)
                          replace q88 := eq_true q88
                          go_wp2_with (first | ((with_reducible refine gate_callee (f := 23) rfl ?_); refine goesL_ (some 162) rfl rfl Try.func23 (by kernel_rfl) rfl #[.slice A88 y336.length c88] rfl (by (try simp only [List.map_toArray, List.map_cons, List.map_nil]); first | done | rfl | (simp only [List.length_drop, List.length_take]; rfl)) ?_; (with_reducible refine (impl_AdvantageOf.calls k2 _ _ y336 t340 t341 _ ?side1 ?side2 A81.out).mono ?_); (case side1 => repeat (first | exact (by repeat (first | (with_reducible exact HR339.out) | (with_reducible refine Kd.C_alloc ?_ _) | (with_reducible refine Kd.C_drewN ?_ _) | (with_reducible refine Kd.C_drew ?_) | exact HR339.out)) | (with_reducible refine Kd.C_alloc ?_ _) | (with_reducible refine Kd.C_drewN ?_ _) | (with_reducible refine Kd.C_drew ?_))); (case side2 => exact HC339.out); rintro e w89 ⟨rfl, hb⟩; refine ⟨_, rfl, ?_⟩; have n0_ := Aside0.mk (Kd.R_below (by (with_reducible repeat (first | apply Kd.R_alloc | apply Kd.R_drewN | apply Kd.R_drew)); exact HO_4.out) hb); have n1_ := Aside0.mk (Kd.R_below (by (with_reducible repeat (first | apply Kd.R_alloc | apply Kd.R_drewN | apply Kd.R_drew)); exact HO_15.out) hb); have n2_ := Aside0.mk (Kd.R_below (by (with_reducible repeat (first | apply Kd.R_alloc | apply Kd.R_drewN | apply Kd.R_drew)); exact HO_17.out) hb); have n3_ := Aside0.mk (Kd.C_below (by repeat (first | (with_reducible exact HR339.out) | (with_reducible refine Kd.C_alloc ?_ _) | (with_reducible refine Kd.C_drewN ?_ _) | (with_reducible refine Kd.C_drew ?_) | exact HR339.out)) hb); have n4_ := Aside0.mk (below_step (by repeat (first | (with_reducible first | exact HB.out | apply below_alloc | apply pw_below_drewN | apply below_drew1) | exact HB.out)) hb); clear HO_4; clear HO_15; clear HO_17; clear HR339; clear HB; have HO_4 := n0_; have HO_15 := n1_; have HO_17 := n2_; have HR339 := n3_; have HB := n4_; clear n0_ n1_ n2_ n3_ n4_; (try clear hb); (try clear hb2); (try clear hk); (try clear hi)))
                          go_ret
                          exact ⟨by first | rfl | (simp [errW_none, errW_some] <;> rfl) | (simp [*, errW_none, errW_some] <;> rfl), by repeat (first | (with_reducible first | exact HB.out | apply below_alloc | apply pw_below_drewN | apply below_drew1) | exact HB.out)⟩
                      · rw [if_neg c82] at H
                        have c82b0 : (t341 == 0) = false := beq_eq_false_iff_ne.mpr c82
                        have c82b1 : (t341 != 0) = true := bne_iff_ne.mpr c82
                        obtain rfl := Option.some.inj H
                        obtain ⟨Ao90, co90, eo90⟩ := Kd.R_slice HO_15.out
                        subst eo90
                        have q91 : ((wrap64 (x26_2 + 1)) : Int) ≤ ((t319.length : Int) : Int) := of_decide_eq_true (by first | (with_reducible assumption) | assumption)
                        obtain ⟨i091, hi091, _, hsz91, _⟩ := info_parts info39
                        have hroom91 : t319.length ≤ co90 := (Kd.R_reads' HO_15.out).2.1
                        have hC91 : Kd.C k39 _ Ao90 t319.length t319 := (Kd.R_reads' HO_15.out).2.2
                        have ql91 : (x26_2 : Int) ≤ ((wrap64 (x26_2 + 1)) : Int) := of_decide_eq_true (by first | (with_reducible assumption) | assumption)
                        have q091 : (0 : Int) ≤ (x26_2 : Int) := of_decide_eq_true (by first | (with_reducible assumption) | assumption)
                        have hcut91 := cut_mid (P := Try.prog) 22 39 .i64 .i64 Try.underlying22 hi091 3 hsz91 Ao90 t319.length co90 x26_2 (wrap64 (x26_2 + 1)) q091 ql91 q91 hroom91
                        have hr91 := Kd.C_mid (lo := (x26_2 : Int).toNat) (hi := ((wrap64 (x26_2 + 1)) : Int).toNat) (c := co90) hC91 (by omega) (by omega) hroom91
                        obtain ⟨A91, hA91⟩ : ∃ A1, A1 = (if co90 = (x26_2 : Int).toNat then Ao90 else (Ao90 : Option Addr).map (·.add ((x26_2 : Int).toNat * 3))) := ⟨_, rfl⟩
                        obtain ⟨c91, hc91⟩ : ∃ c1, c1 = co90 - (x26_2 : Int).toNat := ⟨_, rfl⟩
                        have hy91 : y336.length = ((wrap64 (x26_2 + 1)) : Int).toNat - (x26_2 : Int).toNat := (by rw [Ny336.out, List.length_drop, List.length_take] <;> omega)
                        rw [show ((t319).take ((wrap64 (x26_2 + 1)) : Int).toNat).drop (x26_2 : Int).toNat = y336 from Ny336.out.symm] at hr91
                        replace hr91 : Kd.C k39 _ A91 y336.length y336 := (by rw [hA91]; exact hr91)
                        rw [← hy91, ← hA91, ← hc91] at hcut91
                        have HR339 := Aside0.mk hr91
                        have HC339 := Aside0.mk (show y336.length ≤ c91 from by rw [hy91, hc91]; exact Nat.sub_le_sub_right (Nat.le_trans (by omega) hroom91) _)
                        clear hr91 hC91 hroom91 hi091 hsz91 hc91
                        have KY91 := Aside0.mk hy91
                        have KA91 := Aside0.mk hA91
                        clear hy91 hA91
                        have KL91 := Aside0.mk (show ((wrap64 (x26_2 + 1)) : Int).toNat ≤ t319.length from by omega)
                        have KM91 := Aside0.mk (show (x26_2 : Int).toNat ≤ ((wrap64 (x26_2 + 1)) : Int).toNat from by omega)
                        replace q91 := eq_true q91
                        go_wp2_with (first | ((with_reducible refine gate_callee (f := 23) rfl ?_); refine goesL_ (some 162) rfl rfl Try.func23 (by kernel_rfl) rfl #[.slice A91 y336.length c91] rfl (by (try simp only [List.map_toArray, List.map_cons, List.map_nil]); first | done | rfl | (simp only [List.length_drop, List.length_take]; rfl)) ?_; (with_reducible refine (impl_AdvantageOf.calls k2 _ _ y336 t340 t341 _ ?side1 ?side2 A81.out).mono ?_); (case side1 => repeat (first | exact (by repeat (first | (with_reducible exact HR339.out) | (with_reducible refine Kd.C_alloc ?_ _) | (with_reducible refine Kd.C_drewN ?_ _) | (with_reducible refine Kd.C_drew ?_) | exact HR339.out)) | (with_reducible refine Kd.C_alloc ?_ _) | (with_reducible refine Kd.C_drewN ?_ _) | (with_reducible refine Kd.C_drew ?_))); (case side2 => exact HC339.out); rintro e w92 ⟨rfl, hb⟩; refine ⟨_, rfl, ?_⟩; have n0_ := Aside0.mk (Kd.R_below (by (with_reducible repeat (first | apply Kd.R_alloc | apply Kd.R_drewN | apply Kd.R_drew)); exact HO_4.out) hb); have n1_ := Aside0.mk (Kd.R_below (by (with_reducible repeat (first | apply Kd.R_alloc | apply Kd.R_drewN | apply Kd.R_drew)); exact HO_15.out) hb); have n2_ := Aside0.mk (Kd.R_below (by (with_reducible repeat (first | apply Kd.R_alloc | apply Kd.R_drewN | apply Kd.R_drew)); exact HO_17.out) hb); have n3_ := Aside0.mk (Kd.C_below (by repeat (first | (with_reducible exact HR339.out) | (with_reducible refine Kd.C_alloc ?_ _) | (with_reducible refine Kd.C_drewN ?_ _) | (with_reducible refine Kd.C_drew ?_) | exact HR339.out)) hb); have n4_ := Aside0.mk (below_step (by repeat (first | (with_reducible first | exact HB.out | apply below_alloc | apply pw_below_drewN | apply below_drew1) | exact HB.out)) hb); clear HO_4; clear HO_15; clear HO_17; clear HR339; clear HB; have HO_4 := n0_; have HO_15 := n1_; have HO_17 := n2_; have HR339 := n3_; have HB := n4_; clear n0_ n1_ n2_ n3_ n4_; (try clear hb); (try clear hb2); (try clear hk); (try clear hi)))
                        go_ret
                        exact ⟨by first | rfl | (simp [errW_none, errW_some] <;> rfl) | (simp [*, errW_none, errW_some] <;> rfl), by repeat (first | (with_reducible first | exact HB.out | apply below_alloc | apply pw_below_drewN | apply below_drew1) | exact HB.out)⟩
                    · rw [if_neg c80] at H
                      exact absurd H (by simp)
                  · rw [if_neg c79] at H
                    exact absurd H (by simp)
                · rw [if_neg c78] at H
                  exact absurd H (by simp)
              · rw [if_neg c77] at H
                have c77b0 : decide (x26_2 < (t319.length : Int)) = false := decide_eq_false c77
                clear c77
                have HC93 := Aside0.mk H
                clear H
                obtain ⟨Ao94, co94, eo94⟩ := Kd.R_slice HO_15.out
                subst eo94
                go_upto_region 24 with (fail)
                go_cut [191] (fun v191 wc => ∃ (kq : Nat) (x191_92 : Bool), v191 = .bool x191_92 ∧ Aside0 (laws_FnFewBlocks.j2 kq t301 t302 t303 t310 t323 t328 x191_92 = some r) ∧ Aside0 (kq ≤ k2) ∧ Aside0 (Kd.R k39 39 wc w.heap.size (fun k_ => some k_ ≠ ((.slice Ao27 t323.length co27) : Value).ownBlock) v304 t302) ∧ Aside0 (Kd.R k39 39 wc w.heap.size (fun k_ => some k_ ≠ (v304 : Value).ownBlock) (.slice Ao27 t323.length co27) t323) ∧ Aside0 (Below w.heap.size w wc))
                case first => as_aux_lemma =>
                  have H := HC93.out
                  clear HC93
                  by_cases c95 : t327 = 0
                  · rw [if_pos c95] at H
                    have c95b0 : (t327 == 0) = true := beq_iff_eq.mpr c95
                    have c95b1 : (t327 != 0) = false := bne_eq_false_iff_eq.mpr c95
                    clear c95
                    (first | rw [c95b0] | (simp only [i64_w, i32_w]; rw [c95b0]) | skip)
                    by_cases c96 : t326 < (t323.length : Int)
                    · rw [if_pos c96] at H
                      have c96b0 : decide (t326 < (t323.length : Int)) = true := decide_eq_true c96
                      clear c96
                      have H' := Aside0.mk H
                      clear H
                      go_wp2
                      go_meet
                      case rel => exact ⟨_, (true), (by first | rfl | (simp; done) | (simp [*]; done)), H', ⟨by have := HJ16.out; have := HK2.out; first | omega | exact Nat.le_refl _⟩, ⟨by (with_reducible repeat (first | apply Kd.R_alloc | apply Kd.R_drewN | apply Kd.R_drew)); exact Kd.R_mono HO_4.out (fun _ hk => hk.2)⟩, ⟨by (with_reducible repeat (first | apply Kd.R_alloc | apply Kd.R_drewN | apply Kd.R_drew)); exact Kd.R_mono HO_17.out (fun _ hk => hk.1)⟩, ⟨by repeat (first | (with_reducible first | exact HB.out | apply below_alloc | apply pw_below_drewN | apply below_drew1) | exact HB.out)⟩⟩
                    · rw [if_neg c96] at H
                      have c96b0 : decide (t326 < (t323.length : Int)) = false := decide_eq_false c96
                      clear c96
                      by_cases c97 : t326 > (wrap64 (2 * (t323.length : Int)))
                      · rw [if_pos c97] at H
                        have c97b0 : decide ((wrap64 (2 * (t323.length : Int))) < t326) = true := decide_eq_true c97
                        clear c97
                        have H' := Aside0.mk H
                        clear H
                        go_wp2
                        go_meet
                        case rel => exact ⟨_, (true), (by first | rfl | (simp; done) | (simp [*]; done)), H', ⟨by have := HJ16.out; have := HK2.out; first | omega | exact Nat.le_refl _⟩, ⟨by (with_reducible repeat (first | apply Kd.R_alloc | apply Kd.R_drewN | apply Kd.R_drew)); exact Kd.R_mono HO_4.out (fun _ hk => hk.2)⟩, ⟨by (with_reducible repeat (first | apply Kd.R_alloc | apply Kd.R_drewN | apply Kd.R_drew)); exact Kd.R_mono HO_17.out (fun _ hk => hk.1)⟩, ⟨by repeat (first | (with_reducible first | exact HB.out | apply below_alloc | apply pw_below_drewN | apply below_drew1) | exact HB.out)⟩⟩
                      · rw [if_neg c97] at H
                        have c97b0 : decide ((wrap64 (2 * (t323.length : Int))) < t326) = false := decide_eq_false c97
                        clear c97
                        have H' := Aside0.mk H
                        clear H
                        go_wp2
                        go_meet
                        case rel => exact ⟨_, (decide (t330 < t326)), (by first | rfl | (simp; done) | (simp [*]; done)), H', ⟨by have := HJ16.out; have := HK2.out; first | omega | exact Nat.le_refl _⟩, ⟨by (with_reducible repeat (first | apply Kd.R_alloc | apply Kd.R_drewN | apply Kd.R_drew)); exact Kd.R_mono HO_4.out (fun _ hk => hk.2)⟩, ⟨by (with_reducible repeat (first | apply Kd.R_alloc | apply Kd.R_drewN | apply Kd.R_drew)); exact Kd.R_mono HO_17.out (fun _ hk => hk.1)⟩, ⟨by repeat (first | (with_reducible first | exact HB.out | apply below_alloc | apply pw_below_drewN | apply below_drew1) | exact HB.out)⟩⟩
                  · rw [if_neg c95] at H
                    have c95b0 : (t327 == 0) = false := beq_eq_false_iff_ne.mpr c95
                    have c95b1 : (t327 != 0) = true := bne_iff_ne.mpr c95
                    (first | rw [c95b0] | (simp only [i64_w, i32_w]; rw [c95b0]) | skip)
                    have H' := Aside0.mk H
                    clear H
                    go_wp2
                    go_meet
                    case rel => exact ⟨_, (false), (by first | rfl | (simp; done) | (simp [*]; done)), H', ⟨by have := HJ16.out; have := HK2.out; first | omega | exact Nat.le_refl _⟩, ⟨by (with_reducible repeat (first | apply Kd.R_alloc | apply Kd.R_drewN | apply Kd.R_drew)); exact Kd.R_mono HO_4.out (fun _ hk => hk.2)⟩, ⟨by (with_reducible repeat (first | apply Kd.R_alloc | apply Kd.R_drewN | apply Kd.R_drew)); exact Kd.R_mono HO_17.out (fun _ hk => hk.1)⟩, ⟨by repeat (first | (with_reducible first | exact HB.out | apply below_alloc | apply pw_below_drewN | apply below_drew1) | exact HB.out)⟩⟩
                case rest => as_aux_lemma =>
                  clear HC93
                  try clear c1
                  try clear c2
                  try clear p2
                  try clear c3
                  try clear c4
                  try clear c5
                  try clear c6
                  try clear p6
                  try clear c7
                  try clear c8
                  try clear q8
                  try clear c9
                  try clear q9
                  try clear c10
                  try clear c11
                  try clear c12
                  try clear c13
                  try clear c14
                  try clear c15
                  try clear c16
                  try clear c17
                  try clear c18
                  try clear c19
                  try clear c20
                  try clear c21
                  try clear c23
                  try clear c32
                  try clear c32b0
                  try clear c32b1
                  try clear c34
                  try clear c35
                  try clear c35b0
                  try clear c35b1
                  try clear c36
                  try clear c36b0
                  try clear c36b1
                  try clear c37
                  try clear c37b0
                  try clear c37b1
                  try clear c39
                  try clear c40
                  try clear c40b0
                  try clear c40b1
                  try clear c41
                  try clear c41b0
                  try clear c41b1
                  try clear c42
                  try clear c42b0
                  try clear c42b1
                  try clear c43
                  try clear c43b0
                  try clear c43b1
                  try clear p64
                  try clear c76
                  try clear c77
                  try clear c77b0
                  try clear c78
                  try clear c78b0
                  try clear c78b1
                  try clear c79
                  try clear c79b0
                  try clear c79b1
                  try clear c80
                  try clear c80b0
                  try clear c80b1
                  try clear c82
                  try clear c82b0
                  try clear c82b1
                  try clear c83
                  try clear c83b0
                  try clear c83b1
                  try clear c85
                  try clear q85
                  try clear c88
                  try clear q88
                  try clear c91
                  try clear q91
                  try clear c95
                  try clear c95b0
                  try clear c95b1
                  try clear c96
                  try clear c96b0
                  try clear c97
                  try clear c97b0
                  try clear p2
                  try clear q085
                  try clear q088
                  try clear q091
                  try clear q85
                  try clear q88
                  try clear q91
                  obtain ⟨kq, x191_92, rfl, HA, HJ92, HO_4, HO_17, HB⟩ := hcut
                  cases kq with
                  | zero => exact absurd HA.out (by simp [laws_FnFewBlocks.j2])
                  | succ kj92 =>
                    have H := HA.out
                    clear HA
                    simp only [laws_FnFewBlocks.j2] at H
                    by_cases c98 : x191_92 = true
                    · subst c98
                      have H1 : (some false) = some r := by rw [if_pos rfl] at H; exact H
                      clear H
                      have H := H1
                      clear H1
                      obtain rfl := Option.some.inj H
                      go_wp2
                      go_ret
                      exact ⟨by first | rfl | (simp [errW_none, errW_some] <;> rfl) | (simp [*, errW_none, errW_some] <;> rfl), by repeat (first | (with_reducible first | exact HB.out | apply below_alloc | apply pw_below_drewN | apply below_drew1) | exact HB.out)⟩
                    · replace c98 := Bool.eq_false_iff.mpr c98
                      subst c98
                      have H1 : ((spec_AdvantageOf.f kj92 t323).bind fun bt342 => (if bt342.2 = 0 then (laws_FnFewBlocks.j3 kj92 t301 t302 t303 t310 t328 bt342.1 (decide (bt342.1 ≤ 5000))) else (laws_FnFewBlocks.j3 kj92 t301 t302 t303 t310 t328 bt342.1 false))) = some r := by rw [if_neg (show ¬ (false = true) by decide)] at H; exact H
                      clear H
                      have H := H1
                      clear H1
                      replace H := Option.bind_eq_some_iff.mp H
                      obtain ⟨⟨t342, t343⟩, A990, H⟩ := H
                      replace H : (if t343 = 0 then (laws_FnFewBlocks.j3 kj92 t301 t302 t303 t310 t328 t342 (decide (t342 ≤ 5000))) else (laws_FnFewBlocks.j3 kj92 t301 t302 t303 t310 t328 t342 false)) = some r := H
                      have A99 := Aside0.mk A990
                      clear A990
                      have HC100 := Aside0.mk H
                      clear H
                      go_upto_region 27 with (first | ((with_reducible refine gate_callee (f := 24) rfl ?_); refine goesL_ (some 194) rfl rfl Try.func24 (by kernel_rfl) rfl #[.slice Ao27 t323.length co27] rfl (by (try simp only [List.map_toArray, List.map_cons, List.map_nil]); first | done | rfl | (simp only [List.length_drop, List.length_take]; rfl)) ?_; (with_reducible refine (spec_AdvantageOf.calls kj92 _ _ t323 t342 t343 _ ?side1 ?side2 A99.out).mono ?_); (case side1 => repeat (first | exact (Kd.R_reads' HO_17.out).2.2 | (with_reducible refine Kd.C_alloc ?_ _) | (with_reducible refine Kd.C_drewN ?_ _) | (with_reducible refine Kd.C_drew ?_))); (case side2 => exact (Kd.R_reads' HO_17.out).2.1); rintro e w101 ⟨rfl, hb⟩; refine ⟨_, rfl, ?_⟩; have n0_ := Aside0.mk (Kd.R_below (by (with_reducible repeat (first | apply Kd.R_alloc | apply Kd.R_drewN | apply Kd.R_drew)); exact HO_4.out) hb); have n1_ := Aside0.mk (Kd.R_below (by (with_reducible repeat (first | apply Kd.R_alloc | apply Kd.R_drewN | apply Kd.R_drew)); exact HO_17.out) hb); have n2_ := Aside0.mk (below_step (by repeat (first | (with_reducible first | exact HB.out | apply below_alloc | apply pw_below_drewN | apply below_drew1) | exact HB.out)) hb); clear HO_4; clear HO_17; clear HB; have HO_4 := n0_; have HO_17 := n1_; have HB := n2_; clear n0_ n1_ n2_; (try clear hb); (try clear hb2); (try clear hk); (try clear hi)))
                      (try simp only [Act.put, List.setIfInBounds_toArray, List.set_cons_zero, List.set_cons_succ])
                      go_cut [202] (fun v202 wc => ∃ (kq : Nat) (x202_99 : Bool), v202 = .bool x202_99 ∧ Aside0 (laws_FnFewBlocks.j3 kq t301 t302 t303 t310 t328 t342 x202_99 = some r) ∧ Aside0 (kq ≤ kj92) ∧ Aside0 (Kd.R k39 39 wc w.heap.size (fun _ => True) v304 t302) ∧ Aside0 (Below w.heap.size w wc))
                      case first => as_aux_lemma =>
                        have H := HC100.out
                        clear HC100
                        by_cases c102 : t343 = 0
                        · rw [if_pos c102] at H
                          have c102b0 : (t343 == 0) = true := beq_iff_eq.mpr c102
                          have c102b1 : (t343 != 0) = false := bne_eq_false_iff_eq.mpr c102
                          clear c102
                          (first | rw [c102b0] | (simp only [i64_w, i32_w]; rw [c102b0]) | skip)
                          have H' := Aside0.mk H
                          clear H
                          go_wp2
                          go_meet
                          case rel => exact ⟨_, (decide (t342 ≤ 5000)), (by first | rfl | (simp; done) | (simp [*]; done)), H', ⟨by have := HJ16.out; have := HK2.out; have := HJ92.out; first | omega | exact Nat.le_refl _⟩, ⟨by (with_reducible repeat (first | apply Kd.R_alloc | apply Kd.R_drewN | apply Kd.R_drew)); exact Kd.R_mono HO_4.out (fun _ hk => trivial)⟩, ⟨by repeat (first | (with_reducible first | exact HB.out | apply below_alloc | apply pw_below_drewN | apply below_drew1) | exact HB.out)⟩⟩
                        · rw [if_neg c102] at H
                          have c102b0 : (t343 == 0) = false := beq_eq_false_iff_ne.mpr c102
                          have c102b1 : (t343 != 0) = true := bne_iff_ne.mpr c102
                          (first | rw [c102b0] | (simp only [i64_w, i32_w]; rw [c102b0]) | skip)
                          have H' := Aside0.mk H
                          clear H
                          go_wp2
                          go_meet
                          case rel => exact ⟨_, (false), (by first | rfl | (simp; done) | (simp [*]; done)), H', ⟨by have := HJ16.out; have := HK2.out; have := HJ92.out; first | omega | exact Nat.le_refl _⟩, ⟨by (with_reducible repeat (first | apply Kd.R_alloc | apply Kd.R_drewN | apply Kd.R_drew)); exact Kd.R_mono HO_4.out (fun _ hk => trivial)⟩, ⟨by repeat (first | (with_reducible first | exact HB.out | apply below_alloc | apply pw_below_drewN | apply below_drew1) | exact HB.out)⟩⟩
                      case rest => as_aux_lemma =>
                        clear HC100
                        try clear c1
                        try clear c2
                        try clear p2
                        try clear c3
                        try clear c4
                        try clear c5
                        try clear c6
                        try clear p6
                        try clear c7
                        try clear c8
                        try clear q8
                        try clear c9
                        try clear q9
                        try clear c10
                        try clear c11
                        try clear c12
                        try clear c13
                        try clear c14
                        try clear c15
                        try clear c16
                        try clear c17
                        try clear c18
                        try clear c19
                        try clear c20
                        try clear c21
                        try clear c23
                        try clear c24
                        try clear c32
                        try clear c32b0
                        try clear c32b1
                        try clear c34
                        try clear c35
                        try clear c35b0
                        try clear c35b1
                        try clear c36
                        try clear c36b0
                        try clear c36b1
                        try clear c37
                        try clear c37b0
                        try clear c37b1
                        try clear c39
                        try clear c40
                        try clear c40b0
                        try clear c40b1
                        try clear c41
                        try clear c41b0
                        try clear c41b1
                        try clear c42
                        try clear c42b0
                        try clear c42b1
                        try clear c43
                        try clear c43b0
                        try clear c43b1
                        try clear p64
                        try clear c76
                        try clear c77
                        try clear c77b0
                        try clear c78
                        try clear c78b0
                        try clear c78b1
                        try clear c79
                        try clear c79b0
                        try clear c79b1
                        try clear c80
                        try clear c80b0
                        try clear c80b1
                        try clear c82
                        try clear c82b0
                        try clear c82b1
                        try clear c83
                        try clear c83b0
                        try clear c83b1
                        try clear c85
                        try clear q85
                        try clear c88
                        try clear q88
                        try clear c91
                        try clear q91
                        try clear c95
                        try clear c95b0
                        try clear c95b1
                        try clear c96
                        try clear c96b0
                        try clear c97
                        try clear c97b0
                        try clear c98
                        try clear c102
                        try clear c102b0
                        try clear c102b1
                        try clear p2
                        try clear p6
                        try clear p64
                        try clear q085
                        try clear q088
                        try clear q091
                        try clear q8
                        try clear q85
                        try clear q88
                        try clear q9
                        try clear q91
                        obtain ⟨kq, x202_99, rfl, HA, HJ99, HO_4, HB⟩ := hcut
                        cases kq with
                        | zero => exact absurd HA.out (by simp [laws_FnFewBlocks.j3])
                        | succ kj99 =>
                          have H := HA.out
                          clear HA
                          simp only [laws_FnFewBlocks.j3] at H
                          have HC103 := Aside0.mk H
                          clear H
                          go_upto_if 202 with (fail)
                          go_cut [] (fun wc => ∃ (kq : Nat), Aside0 (laws_FnFewBlocks.j4 kq t301 t302 t303 t310 = some r) ∧ Aside0 (kq ≤ kj99) ∧ Aside0 (Kd.R k39 39 wc w.heap.size (fun _ => True) v304 t302) ∧ Aside0 (Below w.heap.size w wc))
                          case first => as_aux_lemma =>
                            have H := HC103.out
                            clear HC103
                            by_cases c104 : x202_99 = true
                            · subst c104
                              have H1 : ((impl_FewestBlocks.f kj99 t342).bind fun bt344 => (if bt344.2 = 0 then (if bt344.1 > t328 then (some false) else (laws_FnFewBlocks.j4 kj99 t301 t302 t303 t310)) else (some false))) = some r := by rw [if_pos rfl] at H; exact H
                              clear H
                              have H := H1
                              clear H1
                              replace H := Option.bind_eq_some_iff.mp H
                              obtain ⟨⟨t344, t345⟩, A1050, H⟩ := H
                              replace H : (if t345 = 0 then (if t344 > t328 then (some false) else (laws_FnFewBlocks.j4 kj99 t301 t302 t303 t310)) else (some false)) = some r := H
                              have A105 := Aside0.mk A1050
                              clear A1050
                              by_cases c106 : t345 = 0
                              · rw [if_pos c106] at H
                                have c106b0 : (t345 == 0) = true := beq_iff_eq.mpr c106
                                have c106b1 : (t345 != 0) = false := bne_eq_false_iff_eq.mpr c106
                                clear c106
                                (first | rw [c106b0] | (simp only [i64_w, i32_w]; rw [c106b0]) | skip)
                                by_cases c107 : t344 > t328
                                · rw [if_pos c107] at H
                                  have c107b0 : decide (t328 < t344) = true := decide_eq_true c107
                                  clear c107
                                  obtain rfl := Option.some.inj H
                                  go_wp2_with (first | ((with_reducible refine gate_callee (f := 12) rfl ?_); refine goesL_ (some 205) rfl rfl Try.func12 (by kernel_rfl) rfl #[.int .i64 t342] rfl (by (try simp only [List.map_toArray, List.map_cons, List.map_nil]); first | done | rfl | (simp only [List.length_drop, List.length_take]; rfl)) ?_; (with_reducible refine (impl_FewestBlocks.calls kj99 t342 t344 t345 _ A105.out).mono ?_); rintro e w108 ⟨rfl, hb⟩; refine ⟨_, rfl, ?_⟩; have n0_ := Aside0.mk (Kd.R_below (by (with_reducible repeat (first | apply Kd.R_alloc | apply Kd.R_drewN | apply Kd.R_drew)); exact HO_4.out) hb); have n1_ := Aside0.mk (below_step (by repeat (first | (with_reducible first | exact HB.out | apply below_alloc | apply pw_below_drewN | apply below_drew1) | exact HB.out)) hb); clear HO_4; clear HB; have HO_4 := n0_; have HB := n1_; clear n0_ n1_; (try clear hb); (try clear hb2); (try clear hk); (try clear hi)))
                                  go_ret
                                  exact ⟨by first | rfl | (simp [errW_none, errW_some] <;> rfl) | (simp [*, errW_none, errW_some] <;> rfl), by repeat (first | (with_reducible first | exact HB.out | apply below_alloc | apply pw_below_drewN | apply below_drew1) | exact HB.out)⟩
                                · rw [if_neg c107] at H
                                  have c107b0 : decide (t328 < t344) = false := decide_eq_false c107
                                  clear c107
                                  have H' := Aside0.mk H
                                  clear H
                                  go_wp2_with (first | ((with_reducible refine gate_callee (f := 12) rfl ?_); refine goesL_ (some 205) rfl rfl Try.func12 (by kernel_rfl) rfl #[.int .i64 t342] rfl (by (try simp only [List.map_toArray, List.map_cons, List.map_nil]); first | done | rfl | (simp only [List.length_drop, List.length_take]; rfl)) ?_; (with_reducible refine (impl_FewestBlocks.calls kj99 t342 t344 t345 _ A105.out).mono ?_); rintro e w109 ⟨rfl, hb⟩; refine ⟨_, rfl, ?_⟩; have n0_ := Aside0.mk (Kd.R_below (by (with_reducible repeat (first | apply Kd.R_alloc | apply Kd.R_drewN | apply Kd.R_drew)); exact HO_4.out) hb); have n1_ := Aside0.mk (below_step (by repeat (first | (with_reducible first | exact HB.out | apply below_alloc | apply pw_below_drewN | apply below_drew1) | exact HB.out)) hb); clear HO_4; clear HB; have HO_4 := n0_; have HB := n1_; clear n0_ n1_; (try clear hb); (try clear hb2); (try clear hk); (try clear hi)))
                                  go_meet
                                  case rel => exact ⟨_, H', ⟨by have := HJ16.out; have := HK2.out; have := HJ92.out; have := HJ99.out; first | omega | exact Nat.le_refl _⟩, ⟨by (with_reducible repeat (first | apply Kd.R_alloc | apply Kd.R_drewN | apply Kd.R_drew)); exact HO_4.out⟩, ⟨by repeat (first | (with_reducible first | exact HB.out | apply below_alloc | apply pw_below_drewN | apply below_drew1) | exact HB.out)⟩⟩
                              · rw [if_neg c106] at H
                                have c106b0 : (t345 == 0) = false := beq_eq_false_iff_ne.mpr c106
                                have c106b1 : (t345 != 0) = true := bne_iff_ne.mpr c106
                                (first | rw [c106b0] | (simp only [i64_w, i32_w]; rw [c106b0]) | skip)
                                obtain rfl := Option.some.inj H
                                go_wp2_with (first | ((with_reducible refine gate_callee (f := 12) rfl ?_); refine goesL_ (some 205) rfl rfl Try.func12 (by kernel_rfl) rfl #[.int .i64 t342] rfl (by (try simp only [List.map_toArray, List.map_cons, List.map_nil]); first | done | rfl | (simp only [List.length_drop, List.length_take]; rfl)) ?_; (with_reducible refine (impl_FewestBlocks.calls kj99 t342 t344 t345 _ A105.out).mono ?_); rintro e w110 ⟨rfl, hb⟩; refine ⟨_, rfl, ?_⟩; have n0_ := Aside0.mk (Kd.R_below (by (with_reducible repeat (first | apply Kd.R_alloc | apply Kd.R_drewN | apply Kd.R_drew)); exact HO_4.out) hb); have n1_ := Aside0.mk (below_step (by repeat (first | (with_reducible first | exact HB.out | apply below_alloc | apply pw_below_drewN | apply below_drew1) | exact HB.out)) hb); clear HO_4; clear HB; have HO_4 := n0_; have HB := n1_; clear n0_ n1_; (try clear hb); (try clear hb2); (try clear hk); (try clear hi)))
                                go_ret
                                exact ⟨by first | rfl | (simp [errW_none, errW_some] <;> rfl) | (simp [*, errW_none, errW_some] <;> rfl), by repeat (first | (with_reducible first | exact HB.out | apply below_alloc | apply pw_below_drewN | apply below_drew1) | exact HB.out)⟩
                            · replace c104 := Bool.eq_false_iff.mpr c104
                              subst c104
                              have H1 : (laws_FnFewBlocks.j4 kj99 t301 t302 t303 t310) = some r := by rw [if_neg (show ¬ (false = true) by decide)] at H; exact H
                              clear H
                              have H := H1
                              clear H1
                              have H' := Aside0.mk H
                              clear H
                              go_wp2
                              go_meet
                              case rel => exact ⟨_, H', ⟨by have := HJ16.out; have := HK2.out; have := HJ92.out; have := HJ99.out; first | omega | exact Nat.le_refl _⟩, ⟨by (with_reducible repeat (first | apply Kd.R_alloc | apply Kd.R_drewN | apply Kd.R_drew)); exact HO_4.out⟩, ⟨by repeat (first | (with_reducible first | exact HB.out | apply below_alloc | apply pw_below_drewN | apply below_drew1) | exact HB.out)⟩⟩
                          case rest => as_aux_lemma =>
                            clear HC103
                            try clear c1
                            try clear c2
                            try clear p2
                            try clear c3
                            try clear c4
                            try clear c5
                            try clear c6
                            try clear p6
                            try clear c7
                            try clear c8
                            try clear q8
                            try clear c9
                            try clear q9
                            try clear c10
                            try clear c11
                            try clear c12
                            try clear c13
                            try clear c14
                            try clear c15
                            try clear c16
                            try clear c17
                            try clear c18
                            try clear c19
                            try clear c20
                            try clear c21
                            try clear c23
                            try clear c24
                            try clear c32
                            try clear c32b0
                            try clear c32b1
                            try clear c34
                            try clear c35
                            try clear c35b0
                            try clear c35b1
                            try clear c36
                            try clear c36b0
                            try clear c36b1
                            try clear c37
                            try clear c37b0
                            try clear c37b1
                            try clear c39
                            try clear c40
                            try clear c40b0
                            try clear c40b1
                            try clear c41
                            try clear c41b0
                            try clear c41b1
                            try clear c42
                            try clear c42b0
                            try clear c42b1
                            try clear c43
                            try clear c43b0
                            try clear c43b1
                            try clear p64
                            try clear c76
                            try clear c77
                            try clear c77b0
                            try clear c78
                            try clear c78b0
                            try clear c78b1
                            try clear c79
                            try clear c79b0
                            try clear c79b1
                            try clear c80
                            try clear c80b0
                            try clear c80b1
                            try clear c82
                            try clear c82b0
                            try clear c82b1
                            try clear c83
                            try clear c83b0
                            try clear c83b1
                            try clear c85
                            try clear q85
                            try clear c88
                            try clear q88
                            try clear c91
                            try clear q91
                            try clear c95
                            try clear c95b0
                            try clear c95b1
                            try clear c96
                            try clear c96b0
                            try clear c97
                            try clear c97b0
                            try clear c98
                            try clear c102
                            try clear c102b0
                            try clear c102b1
                            try clear c104
                            try clear c106
                            try clear c106b0
                            try clear c106b1
                            try clear c107
                            try clear c107b0
                            try clear p2
                            try clear p6
                            try clear p64
                            try clear q085
                            try clear q088
                            try clear q091
                            try clear q8
                            try clear q85
                            try clear q88
                            try clear q9
                            try clear q91
                            obtain ⟨kq, HA, HJ102, HO_4, HB⟩ := hcut
                            cases kq with
                            | zero => exact absurd HA.out (by simp [laws_FnFewBlocks.j4])
                            | succ kj102 =>
                              have H := HA.out
                              clear HA
                              simp only [laws_FnFewBlocks.j4] at H
                              by_cases c111 : t303 = 0
                              · rw [if_pos c111] at H
                                have c111b0 : (t303 == 0) = true := beq_iff_eq.mpr c111
                                have c111b1 : (t303 != 0) = false := bne_eq_false_iff_eq.mpr c111
                                clear c111
                                replace H := Option.bind_eq_some_iff.mp H
                                obtain ⟨⟨t346, t347⟩, A1120, H⟩ := H
                                replace H : ((impl_BlocksOf.f kj102 t302).bind fun bt348 => (if t347 = 0 then (if t346 = t301 then (if bt348.2 = 0 then (some (bt348.1 == t310)) else (some false)) else (some false)) else (some false))) = some r := H
                                have A112 := Aside0.mk A1120
                                clear A1120
                                replace H := Option.bind_eq_some_iff.mp H
                                obtain ⟨⟨t348, t349⟩, A1130, H⟩ := H
                                replace H : (if t347 = 0 then (if t346 = t301 then (if t349 = 0 then (some (t348 == t310)) else (some false)) else (some false)) else (some false)) = some r := H
                                have A113 := Aside0.mk A1130
                                clear A1130
                                by_cases c114 : t347 = 0
                                · rw [if_pos c114] at H
                                  have c114b0 : (t347 == 0) = true := beq_iff_eq.mpr c114
                                  have c114b1 : (t347 != 0) = false := bne_eq_false_iff_eq.mpr c114
                                  clear c114
                                  by_cases c115 : t346 = t301
                                  · rw [if_pos c115] at H
                                    have c115b0 : (t346 == t301) = true := beq_iff_eq.mpr c115
                                    have c115b1 : (t346 != t301) = false := bne_eq_false_iff_eq.mpr c115
                                    clear c115
                                    by_cases c116 : t349 = 0
                                    · rw [if_pos c116] at H
                                      have c116b0 : (t349 == 0) = true := beq_iff_eq.mpr c116
                                      have c116b1 : (t349 != 0) = false := bne_eq_false_iff_eq.mpr c116
                                      clear c116
                                      obtain rfl := Option.some.inj H
                                      obtain ⟨Ao117, co117, eo117⟩ := Kd.R_slice HO_4.out
                                      subst eo117
                                      go_wp2_with (first | ((with_reducible refine gate_callee (f := 23) rfl ?_); refine goesL_ (some 219) rfl rfl Try.func23 (by kernel_rfl) rfl #[.slice Ao117 t302.length co117] rfl (by (try simp only [List.map_toArray, List.map_cons, List.map_nil]); first | done | rfl | (simp only [List.length_drop, List.length_take]; rfl)) ?_; (with_reducible refine (impl_AdvantageOf.calls kj102 _ _ t302 t346 t347 _ ?side1 ?side2 A112.out).mono ?_); (case side1 => repeat (first | exact (Kd.R_reads' HO_4.out).2.2 | (with_reducible refine Kd.C_alloc ?_ _) | (with_reducible refine Kd.C_drewN ?_ _) | (with_reducible refine Kd.C_drew ?_))); (case side2 => exact (Kd.R_reads' HO_4.out).2.1); rintro e w118 ⟨rfl, hb⟩; refine ⟨_, rfl, ?_⟩; have n0_ := Aside0.mk (Kd.R_below (by (with_reducible repeat (first | apply Kd.R_alloc | apply Kd.R_drewN | apply Kd.R_drew)); exact HO_4.out) hb); have n1_ := Aside0.mk (below_step (by repeat (first | (with_reducible first | exact HB.out | apply below_alloc | apply pw_below_drewN | apply below_drew1) | exact HB.out)) hb); clear HO_4; clear HB; have HO_4 := n0_; have HB := n1_; clear n0_ n1_; (try clear hb); (try clear hb2); (try clear hk); (try clear hi)) | ((with_reducible refine gate_callee (f := 18) rfl ?_); refine goesL_ (some 224) rfl rfl Try.func18 (by kernel_rfl) rfl #[.slice Ao117 t302.length co117] rfl (by (try simp only [List.map_toArray, List.map_cons, List.map_nil]); first | done | rfl | (simp only [List.length_drop, List.length_take]; rfl)) ?_; (with_reducible refine (impl_BlocksOf.calls kj102 _ _ t302 t348 t349 _ ?side1 ?side2 A113.out).mono ?_); (case side1 => repeat (first | exact (Kd.R_reads' HO_4.out).2.2 | (with_reducible refine Kd.C_alloc ?_ _) | (with_reducible refine Kd.C_drewN ?_ _) | (with_reducible refine Kd.C_drew ?_))); (case side2 => exact (Kd.R_reads' HO_4.out).2.1); rintro e w119 ⟨rfl, hb⟩; refine ⟨_, rfl, ?_⟩; have n0_ := Aside0.mk (Kd.R_below (by (with_reducible repeat (first | apply Kd.R_alloc | apply Kd.R_drewN | apply Kd.R_drew)); exact HO_4.out) hb); have n1_ := Aside0.mk (below_step (by repeat (first | (with_reducible first | exact HB.out | apply below_alloc | apply pw_below_drewN | apply below_drew1) | exact HB.out)) hb); clear HO_4; clear HB; have HO_4 := n0_; have HB := n1_; clear n0_ n1_; (try clear hb); (try clear hb2); (try clear hk); (try clear hi)))
                                      go_ret
                                      exact ⟨by first | rfl | (simp [errW_none, errW_some] <;> rfl) | (simp [*, errW_none, errW_some] <;> rfl), by repeat (first | (with_reducible first | exact HB.out | apply below_alloc | apply pw_below_drewN | apply below_drew1) | exact HB.out)⟩
                                    · rw [if_neg c116] at H
                                      have c116b0 : (t349 == 0) = false := beq_eq_false_iff_ne.mpr c116
                                      have c116b1 : (t349 != 0) = true := bne_iff_ne.mpr c116
                                      obtain rfl := Option.some.inj H
                                      obtain ⟨Ao120, co120, eo120⟩ := Kd.R_slice HO_4.out
                                      subst eo120
                                      go_wp2_with (first | ((with_reducible refine gate_callee (f := 23) rfl ?_); refine goesL_ (some 219) rfl rfl Try.func23 (by kernel_rfl) rfl #[.slice Ao120 t302.length co120] rfl (by (try simp only [List.map_toArray, List.map_cons, List.map_nil]); first | done | rfl | (simp only [List.length_drop, List.length_take]; rfl)) ?_; (with_reducible refine (impl_AdvantageOf.calls kj102 _ _ t302 t346 t347 _ ?side1 ?side2 A112.out).mono ?_); (case side1 => repeat (first | exact (Kd.R_reads' HO_4.out).2.2 | (with_reducible refine Kd.C_alloc ?_ _) | (with_reducible refine Kd.C_drewN ?_ _) | (with_reducible refine Kd.C_drew ?_))); (case side2 => exact (Kd.R_reads' HO_4.out).2.1); rintro e w121 ⟨rfl, hb⟩; refine ⟨_, rfl, ?_⟩; have n0_ := Aside0.mk (Kd.R_below (by (with_reducible repeat (first | apply Kd.R_alloc | apply Kd.R_drewN | apply Kd.R_drew)); exact HO_4.out) hb); have n1_ := Aside0.mk (below_step (by repeat (first | (with_reducible first | exact HB.out | apply below_alloc | apply pw_below_drewN | apply below_drew1) | exact HB.out)) hb); clear HO_4; clear HB; have HO_4 := n0_; have HB := n1_; clear n0_ n1_; (try clear hb); (try clear hb2); (try clear hk); (try clear hi)) | ((with_reducible refine gate_callee (f := 18) rfl ?_); refine goesL_ (some 224) rfl rfl Try.func18 (by kernel_rfl) rfl #[.slice Ao120 t302.length co120] rfl (by (try simp only [List.map_toArray, List.map_cons, List.map_nil]); first | done | rfl | (simp only [List.length_drop, List.length_take]; rfl)) ?_; (with_reducible refine (impl_BlocksOf.calls kj102 _ _ t302 t348 t349 _ ?side1 ?side2 A113.out).mono ?_); (case side1 => repeat (first | exact (Kd.R_reads' HO_4.out).2.2 | (with_reducible refine Kd.C_alloc ?_ _) | (with_reducible refine Kd.C_drewN ?_ _) | (with_reducible refine Kd.C_drew ?_))); (case side2 => exact (Kd.R_reads' HO_4.out).2.1); rintro e w122 ⟨rfl, hb⟩; refine ⟨_, rfl, ?_⟩; have n0_ := Aside0.mk (Kd.R_below (by (with_reducible repeat (first | apply Kd.R_alloc | apply Kd.R_drewN | apply Kd.R_drew)); exact HO_4.out) hb); have n1_ := Aside0.mk (below_step (by repeat (first | (with_reducible first | exact HB.out | apply below_alloc | apply pw_below_drewN | apply below_drew1) | exact HB.out)) hb); clear HO_4; clear HB; have HO_4 := n0_; have HB := n1_; clear n0_ n1_; (try clear hb); (try clear hb2); (try clear hk); (try clear hi)))
                                      go_ret
                                      exact ⟨by first | rfl | (simp [errW_none, errW_some] <;> rfl) | (simp [*, errW_none, errW_some] <;> rfl), by repeat (first | (with_reducible first | exact HB.out | apply below_alloc | apply pw_below_drewN | apply below_drew1) | exact HB.out)⟩
                                  · rw [if_neg c115] at H
                                    have c115b0 : (t346 == t301) = false := beq_eq_false_iff_ne.mpr c115
                                    have c115b1 : (t346 != t301) = true := bne_iff_ne.mpr c115
                                    obtain rfl := Option.some.inj H
                                    obtain ⟨Ao123, co123, eo123⟩ := Kd.R_slice HO_4.out
                                    subst eo123
                                    go_wp2_with (first | ((with_reducible refine gate_callee (f := 23) rfl ?_); refine goesL_ (some 219) rfl rfl Try.func23 (by kernel_rfl) rfl #[.slice Ao123 t302.length co123] rfl (by (try simp only [List.map_toArray, List.map_cons, List.map_nil]); first | done | rfl | (simp only [List.length_drop, List.length_take]; rfl)) ?_; (with_reducible refine (impl_AdvantageOf.calls kj102 _ _ t302 t346 t347 _ ?side1 ?side2 A112.out).mono ?_); (case side1 => repeat (first | exact (Kd.R_reads' HO_4.out).2.2 | (with_reducible refine Kd.C_alloc ?_ _) | (with_reducible refine Kd.C_drewN ?_ _) | (with_reducible refine Kd.C_drew ?_))); (case side2 => exact (Kd.R_reads' HO_4.out).2.1); rintro e w124 ⟨rfl, hb⟩; refine ⟨_, rfl, ?_⟩; have n0_ := Aside0.mk (Kd.R_below (by (with_reducible repeat (first | apply Kd.R_alloc | apply Kd.R_drewN | apply Kd.R_drew)); exact HO_4.out) hb); have n1_ := Aside0.mk (below_step (by repeat (first | (with_reducible first | exact HB.out | apply below_alloc | apply pw_below_drewN | apply below_drew1) | exact HB.out)) hb); clear HO_4; clear HB; have HO_4 := n0_; have HB := n1_; clear n0_ n1_; (try clear hb); (try clear hb2); (try clear hk); (try clear hi)) | ((with_reducible refine gate_callee (f := 18) rfl ?_); refine goesL_ (some 224) rfl rfl Try.func18 (by kernel_rfl) rfl #[.slice Ao123 t302.length co123] rfl (by (try simp only [List.map_toArray, List.map_cons, List.map_nil]); first | done | rfl | (simp only [List.length_drop, List.length_take]; rfl)) ?_; (with_reducible refine (impl_BlocksOf.calls kj102 _ _ t302 t348 t349 _ ?side1 ?side2 A113.out).mono ?_); (case side1 => repeat (first | exact (Kd.R_reads' HO_4.out).2.2 | (with_reducible refine Kd.C_alloc ?_ _) | (with_reducible refine Kd.C_drewN ?_ _) | (with_reducible refine Kd.C_drew ?_))); (case side2 => exact (Kd.R_reads' HO_4.out).2.1); rintro e w125 ⟨rfl, hb⟩; refine ⟨_, rfl, ?_⟩; have n0_ := Aside0.mk (Kd.R_below (by (with_reducible repeat (first | apply Kd.R_alloc | apply Kd.R_drewN | apply Kd.R_drew)); exact HO_4.out) hb); have n1_ := Aside0.mk (below_step (by repeat (first | (with_reducible first | exact HB.out | apply below_alloc | apply pw_below_drewN | apply below_drew1) | exact HB.out)) hb); clear HO_4; clear HB; have HO_4 := n0_; have HB := n1_; clear n0_ n1_; (try clear hb); (try clear hb2); (try clear hk); (try clear hi)))
                                    go_ret
                                    exact ⟨by first | rfl | (simp [errW_none, errW_some] <;> rfl) | (simp [*, errW_none, errW_some] <;> rfl), by repeat (first | (with_reducible first | exact HB.out | apply below_alloc | apply pw_below_drewN | apply below_drew1) | exact HB.out)⟩
                                · rw [if_neg c114] at H
                                  have c114b0 : (t347 == 0) = false := beq_eq_false_iff_ne.mpr c114
                                  have c114b1 : (t347 != 0) = true := bne_iff_ne.mpr c114
                                  obtain rfl := Option.some.inj H
                                  obtain ⟨Ao126, co126, eo126⟩ := Kd.R_slice HO_4.out
                                  subst eo126
                                  go_wp2_with (first | ((with_reducible refine gate_callee (f := 23) rfl ?_); refine goesL_ (some 219) rfl rfl Try.func23 (by kernel_rfl) rfl #[.slice Ao126 t302.length co126] rfl (by (try simp only [List.map_toArray, List.map_cons, List.map_nil]); first | done | rfl | (simp only [List.length_drop, List.length_take]; rfl)) ?_; (with_reducible refine (impl_AdvantageOf.calls kj102 _ _ t302 t346 t347 _ ?side1 ?side2 A112.out).mono ?_); (case side1 => repeat (first | exact (Kd.R_reads' HO_4.out).2.2 | (with_reducible refine Kd.C_alloc ?_ _) | (with_reducible refine Kd.C_drewN ?_ _) | (with_reducible refine Kd.C_drew ?_))); (case side2 => exact (Kd.R_reads' HO_4.out).2.1); rintro e w127 ⟨rfl, hb⟩; refine ⟨_, rfl, ?_⟩; have n0_ := Aside0.mk (Kd.R_below (by (with_reducible repeat (first | apply Kd.R_alloc | apply Kd.R_drewN | apply Kd.R_drew)); exact HO_4.out) hb); have n1_ := Aside0.mk (below_step (by repeat (first | (with_reducible first | exact HB.out | apply below_alloc | apply pw_below_drewN | apply below_drew1) | exact HB.out)) hb); clear HO_4; clear HB; have HO_4 := n0_; have HB := n1_; clear n0_ n1_; (try clear hb); (try clear hb2); (try clear hk); (try clear hi)) | ((with_reducible refine gate_callee (f := 18) rfl ?_); refine goesL_ (some 224) rfl rfl Try.func18 (by kernel_rfl) rfl #[.slice Ao126 t302.length co126] rfl (by (try simp only [List.map_toArray, List.map_cons, List.map_nil]); first | done | rfl | (simp only [List.length_drop, List.length_take]; rfl)) ?_; (with_reducible refine (impl_BlocksOf.calls kj102 _ _ t302 t348 t349 _ ?side1 ?side2 A113.out).mono ?_); (case side1 => repeat (first | exact (Kd.R_reads' HO_4.out).2.2 | (with_reducible refine Kd.C_alloc ?_ _) | (with_reducible refine Kd.C_drewN ?_ _) | (with_reducible refine Kd.C_drew ?_))); (case side2 => exact (Kd.R_reads' HO_4.out).2.1); rintro e w128 ⟨rfl, hb⟩; refine ⟨_, rfl, ?_⟩; have n0_ := Aside0.mk (Kd.R_below (by (with_reducible repeat (first | apply Kd.R_alloc | apply Kd.R_drewN | apply Kd.R_drew)); exact HO_4.out) hb); have n1_ := Aside0.mk (below_step (by repeat (first | (with_reducible first | exact HB.out | apply below_alloc | apply pw_below_drewN | apply below_drew1) | exact HB.out)) hb); clear HO_4; clear HB; have HO_4 := n0_; have HB := n1_; clear n0_ n1_; (try clear hb); (try clear hb2); (try clear hk); (try clear hi)))
                                  go_ret
                                  exact ⟨by first | rfl | (simp [errW_none, errW_some] <;> rfl) | (simp [*, errW_none, errW_some] <;> rfl), by repeat (first | (with_reducible first | exact HB.out | apply below_alloc | apply pw_below_drewN | apply below_drew1) | exact HB.out)⟩
                              · rw [if_neg c111] at H
                                have c111b0 : (t303 == 0) = false := beq_eq_false_iff_ne.mpr c111
                                have c111b1 : (t303 != 0) = true := bne_iff_ne.mpr c111
                                obtain rfl := Option.some.inj H
                                go_wp2
                                go_ret
                                exact ⟨by first | rfl | (simp [errW_none, errW_some] <;> rfl) | (simp [*, errW_none, errW_some] <;> rfl), by repeat (first | (with_reducible first | exact HB.out | apply below_alloc | apply pw_below_drewN | apply below_drew1) | exact HB.out)⟩

/-- THE ONE PURE STATEMENT of laws_FnFewBlocks: yours. -/
def laws_FnFewBlocks.Pure : Prop := ∀ (l0 : List Int), l0.length ≤ maxLen → l0.length * 1 ≤ 140737488351232 → (∀ x ∈ l0, (Lit.int .u8 x).wf = true) → ∃ k, laws_FnFewBlocks.f k l0 = some true
theorem laws_FnFewBlocks.walk (P : laws_FnFewBlocks.Pure) (a0 : Option Addr) (len0 cap0 : Nat) (z0 : List Int) (w : World) (w0 : (a0 = none ∧ len0 = 0 ∧ cap0 = 0 ∧ z0 = []) ∨ ∃ x, a0 = some x ∧ len0 ≤ cap0 ∧ cap0 ≤ maxLen ∧ z0.length = cap0 ∧ (∀ i, i < z0.length → w.cell? (x.add i) = some (.int .u8 (z0.getD i 0))) ∧ ∀ n ∈ z0, (Lit.int .u8 n).wf = true) (y0 : len0 * 1 ≤ 140737488351232) :
    Calls Try.prog 4 #[.slice a0 len0 cap0] w fun e w' => e = .returned (.bool true) ∧ Below w.heap.size w w' := by
  obtain ⟨l0, rfl, hr0, hm0, hw0, hc0⟩ := ReadsInt.ofRowC w0
  obtain ⟨k, h⟩ := P l0 hm0 y0 hw0
  refine (laws_FnFewBlocks.calls k _ _ l0 true w (Kd.C_of_reads (d := (0 : Int)) (h1 := fun _ => rfl) hr0) hc0 h).mono ?_
  rintro e w' ⟨rfl, hd⟩
  exact ⟨rfl, hd⟩

end Go.Proofs.Ytcjandlemjfojaa.HFew
