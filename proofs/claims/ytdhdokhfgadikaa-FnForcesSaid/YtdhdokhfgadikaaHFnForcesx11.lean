-- Written by a program for this claim (the functions that the statement reaches, and that the program's code comes to them).
import Derived.Test.YtdhdokhfgadikaaHFnForcesx0
import Derived.Test.YtdhdokhfgadikaaHFnForcesx3
import Derived.Test.YtdhdokhfgadikaaHFnForcesx6
import Derived.Test.YtdhdokhfgadikaaHFnForcesx9
import Derived.Test.YtdhdokhfgadikaaHFnForcesx10
namespace Go.Proofs.Ytdhdokhfgadikaa.HFnForces
open Go.RowKit Go.Proofs.YtdhdokhfgadikaaW.PrintWords Go.Proofs.YtdhdokhfgadikaaW.PrintLast Go.Proofs.YtdhdokhfgadikaaW.PrintMore
attribute [local go_sem] max2_int min2_int max_two min_two max_three min_three max_four min_four   -- for this text's walks alone
set_option linter.unusedVariables false
set_option linter.unusedSimpArgs false

/-! ### laws_FnForces: function 12 -/
mutual
def laws_FnForces.j0 : Nat → List (S27) → Int → Int → Int → Bool → Option (Bool)
 | 0, _, _, _, _, _ => none
 | k + 1, x5, x6, x7, x8, x75 => if x75 = true then (some false) else (if x8 ≤ 100000 then ((impl_MostRaised.f k x5 x6 x8).bind fun bt356 => (if bt356.2 = 0 then (if bt356.1 < x7 then (some false) else (laws_FnForces.j1 k x5 x6 x7 x8)) else (some false))) else (laws_FnForces.j1 k x5 x6 x7 x8))
def laws_FnForces.j1 : Nat → List (S27) → Int → Int → Int → Option (Bool)
 | 0, _, _, _, _ => none
 | k + 1, x5, x6, x7, x8 => if x8 > 1 then (laws_FnForces.j2 k x5 x6 x7 x8 (decide (x8 ≤ 100001))) else (laws_FnForces.j2 k x5 x6 x7 x8 false)
def laws_FnForces.j2 : Nat → List (S27) → Int → Int → Int → Bool → Option (Bool)
 | 0, _, _, _, _, _ => none
 | k + 1, x5, x6, x7, x8, x97 => if x97 = true then ((impl_MostRaised.f k x5 x6 (wrap64 (x8 - 1))).bind fun bt358 => (if bt358.2 = 0 then (if bt358.1 ≥ x7 then (some false) else (laws_FnForces.j3 k x5 x6 x7)) else (some false))) else (laws_FnForces.j3 k x5 x6 x7)
def laws_FnForces.j3 : Nat → List (S27) → Int → Int → Option (Bool)
 | 0, _, _, _ => none
 | k + 1, x5, x6, x7 => if 0 < (x5.length : Int) then ((impl_PartTensions.f k ((rd_T27 x5 0).f0) ((rd_T27 x5 0).f1) ((rd_T27 x5 0).f2) x6 x7).bind fun bt361 => (if bt361.2 = 0 then (if (bt361.1.length : Int) = (wrap64 ((wrap64 (((rd_T27 x5 0).f0) + ((rd_T27 x5 0).f1))) + 1)) then (if 0 < (bt361.1.length : Int) then (if ((rd_T35 bt361.1 0).f0) = x7 then (laws_FnForces.j4 k x6 x7 bt361.1 (((rd_T35 bt361.1 0).f1) != 1)) else (laws_FnForces.j4 k x6 x7 bt361.1 true)) else (none)) else (laws_FnForces.j4 k x6 x7 bt361.1 true)) else (laws_FnForces.j4 k x6 x7 bt361.1 true))) else (none)
def laws_FnForces.j4 : Nat → Int → Int → List (S35) → Bool → Option (Bool)
 | 0, _, _, _, _ => none
 | k + 1, x6, x7, x16, x153 => if x153 = true then (some false) else (laws_FnForces.l0 k x6 x7 x16 1)
def laws_FnForces.l0 : Nat → Int → Int → List (S35) → Int → Option (Bool)
 | 0, _, _, _, _ => none
 | k + 1, x6, x7, x16, x18 => if x18 < (x16.length : Int) then (if 0 ≤ x18 then (if ((rd_T35 x16 x18).f1) < 1 then (some false) else (if ((rd_T35 x16 x18).f0) < 1 then (some false) else (if ((rd_T35 x16 x18).f0) > (wrap64 (x7 * ((rd_T35 x16 x18).f1))) then (some false) else (laws_FnForces.l0 k x6 x7 x16 (wrap64 (x18 + 1)))))) else (none)) else ((impl_PurchaseForForce.f k x6 x7 (mx 1 (wrap64 (Int.tdiv x7 3)))).bind fun bt373 => (if bt373.2.2.2 = 0 then ((spec_ValidPurchase.f k bt373.1 bt373.2.1 bt373.2.2.1).bind fun t378 => (if t378 = true then ((spec_RaiseForce.f k (([(⟨bt373.1, bt373.2.1, bt373.2.2.1⟩ : S27)] : List (S27))) x6 x7).bind fun bt382 => (if bt382.2 = 0 then (laws_FnForces.j6 k x6 x7 (decide (bt382.1 > (mx 1 (wrap64 (Int.tdiv x7 3))))) bt373.1 bt373.2.1 bt373.2.2.1) else (laws_FnForces.j6 k x6 x7 true bt373.1 bt373.2.1 bt373.2.2.1))) else (some false))) else (some (bt373.2.2.2 == 3))))
def laws_FnForces.j6 : Nat → Int → Int → Bool → Int → Int → Bool → Option (Bool)
 | 0, _, _, _, _, _, _ => none
 | k + 1, x6, x7, x221, x378000, x378001, x378002 => if x221 = true then (some false) else (laws_FnForces.l1 k x6 x7 1 x378000 x378001 x378002)
def laws_FnForces.l1 : Nat → Int → Int → Int → Int → Int → Bool → Option (Bool)
 | 0, _, _, _, _, _, _ => none
 | k + 1, x6, x7, x23, x378000, x378001, x378002 => if x23 < (wrap64 (x378000 + x378001)) then ((spec_RaiseForce.f k (([(⟨wrap64 (Int.tdiv (wrap64 (x23 + 1)) 2), wrap64 (Int.tdiv x23 2), false⟩ : S27)] : List (S27))) x6 x7).bind fun bt387 => ((spec_RaiseForce.f k (([(⟨wrap64 (Int.tdiv x23 2), wrap64 (Int.tdiv (wrap64 (x23 + 1)) 2), true⟩ : S27)] : List (S27))) x6 x7).bind fun bt392 => (if bt387.2 = 0 then (if bt392.2 = 0 then (if (mn bt387.1 bt392.1) ≤ (mx 1 (wrap64 (Int.tdiv x7 3))) then (some false) else (laws_FnForces.l1 k x6 x7 (wrap64 (x23 + 1)) x378000 x378001 x378002)) else (some false)) else (some false)))) else (some true)
end
def laws_FnForces.f (k : Nat) (l0 : List Int) (l1 : List Int) : Option (Bool) := (laws_a2Long.f l0 l1).bind fun t346 => (if t346 = true then (some true) else ((spec_A2Rough.f k l0).bind fun t347 => ((laws_a2At.f l1 0 8).bind fun t350 => ((laws_a2At.f l1 1 200).bind fun t351 => ((impl_RaiseForce.f k t347 t350 (wrap64 (1 + (wrap64 (t351 * 100))))).bind fun bt352 => ((impl_HoldForce.f k t347 t350 (wrap64 (1 + (wrap64 (t351 * 100))))).bind fun bt354 => (if bt352.2 = 0 then (if bt352.1 < 1 then (laws_FnForces.j0 k t347 t350 (wrap64 (1 + (wrap64 (t351 * 100)))) bt352.1 true) else (if bt352.1 > 100000000 then (laws_FnForces.j0 k t347 t350 (wrap64 (1 + (wrap64 (t351 * 100)))) bt352.1 true) else (if bt354.2 = 0 then (if bt354.1 < 1 then (laws_FnForces.j0 k t347 t350 (wrap64 (1 + (wrap64 (t351 * 100)))) bt352.1 true) else (laws_FnForces.j0 k t347 t350 (wrap64 (1 + (wrap64 (t351 * 100)))) bt352.1 (decide (bt354.1 > bt352.1)))) else (laws_FnForces.j0 k t347 t350 (wrap64 (1 + (wrap64 (t351 * 100)))) bt352.1 true)))) else (laws_FnForces.j0 k t347 t350 (wrap64 (1 + (wrap64 (t351 * 100)))) bt352.1 true))))))))
theorem laws_FnForces.mono_l : ∀ k, (∀ y0 y1 y2 y3 y4, LeO (laws_FnForces.j0 k y0 y1 y2 y3 y4) (laws_FnForces.j0 (k + 1) y0 y1 y2 y3 y4)) ∧ (∀ y0 y1 y2 y3, LeO (laws_FnForces.j1 k y0 y1 y2 y3) (laws_FnForces.j1 (k + 1) y0 y1 y2 y3)) ∧ (∀ y0 y1 y2 y3 y4, LeO (laws_FnForces.j2 k y0 y1 y2 y3 y4) (laws_FnForces.j2 (k + 1) y0 y1 y2 y3 y4)) ∧ (∀ y0 y1 y2, LeO (laws_FnForces.j3 k y0 y1 y2) (laws_FnForces.j3 (k + 1) y0 y1 y2)) ∧ (∀ y0 y1 y2 y3, LeO (laws_FnForces.j4 k y0 y1 y2 y3) (laws_FnForces.j4 (k + 1) y0 y1 y2 y3)) ∧ (∀ y0 y1 y2 y3, LeO (laws_FnForces.l0 k y0 y1 y2 y3) (laws_FnForces.l0 (k + 1) y0 y1 y2 y3)) ∧ (∀ y0 y1 y2 y3 y4 y5, LeO (laws_FnForces.j6 k y0 y1 y2 y3 y4 y5) (laws_FnForces.j6 (k + 1) y0 y1 y2 y3 y4 y5)) ∧ (∀ y0 y1 y2 y3 y4 y5, LeO (laws_FnForces.l1 k y0 y1 y2 y3 y4 y5) (laws_FnForces.l1 (k + 1) y0 y1 y2 y3 y4 y5))
 | 0 => ⟨fun _ _ _ _ _ r h => by simp [laws_FnForces.j0] at h, fun _ _ _ _ r h => by simp [laws_FnForces.j1] at h, fun _ _ _ _ _ r h => by simp [laws_FnForces.j2] at h, fun _ _ _ r h => by simp [laws_FnForces.j3] at h, fun _ _ _ _ r h => by simp [laws_FnForces.j4] at h, fun _ _ _ _ r h => by simp [laws_FnForces.l0] at h, fun _ _ _ _ _ _ r h => by simp [laws_FnForces.j6] at h, fun _ _ _ _ _ _ r h => by simp [laws_FnForces.l1] at h⟩
 | k + 1 => by
  obtain ⟨ih0, ih1, ih2, ih3, ih4, ih5, ih6, ih7⟩ := laws_FnForces.mono_l k
  refine ⟨?_, ?_, ?_, ?_, ?_, ?_, ?_, ?_⟩
  ·intro y0 y1 y2 y3 y4
   unfold laws_FnForces.j0
   repeat' first
   | (with_reducible exact ih0 _ _ _ _ _)
   | (with_reducible exact ih1 _ _ _ _)
   | (with_reducible exact ih2 _ _ _ _ _)
   | (with_reducible exact ih3 _ _ _)
   | (with_reducible exact ih4 _ _ _ _)
   | (with_reducible exact ih5 _ _ _ _)
   | (with_reducible exact ih6 _ _ _ _ _ _)
   | (with_reducible exact ih7 _ _ _ _ _ _)
   | (with_reducible exact impl_HoldForce.mono _ _ _ _)
   | (with_reducible exact impl_MostRaised.mono _ _ _ _)
   | (with_reducible exact impl_PartTensions.mono _ _ _ _ _ _)
   | (with_reducible exact impl_PurchaseForForce.mono _ _ _ _)
   | (with_reducible exact impl_RaiseForce.mono _ _ _ _)
   | (with_reducible exact spec_A2Rough.mono _ _)
   | (with_reducible exact spec_RaiseForce.mono _ _ _ _)
   | (with_reducible exact spec_ValidPurchase.mono _ _ _ _)
   | (with_reducible exact LeO.refl _)
   | (with_reducible exact LeO.none _)
   | (with_reducible refine LeO.ite ?_ ?_)
   | (with_reducible refine LeO.bind ?_ (fun _ => ?_))
   | exact ih0 _ _ _ _ _
   | exact ih1 _ _ _ _
   | exact ih2 _ _ _ _ _
   | exact ih3 _ _ _
   | exact ih4 _ _ _ _
   | exact ih5 _ _ _ _
   | exact ih6 _ _ _ _ _ _
   | exact ih7 _ _ _ _ _ _
   | exact impl_HoldForce.mono _ _ _ _
   | exact impl_MostRaised.mono _ _ _ _
   | exact impl_PartTensions.mono _ _ _ _ _ _
   | exact impl_PurchaseForForce.mono _ _ _ _
   | exact impl_RaiseForce.mono _ _ _ _
   | exact spec_A2Rough.mono _ _
   | exact spec_RaiseForce.mono _ _ _ _
   | exact spec_ValidPurchase.mono _ _ _ _
   | exact LeO.none _
   | refine LeO.ite ?_ ?_
   | refine LeO.bind ?_ (fun _ => ?_)
  ·intro y0 y1 y2 y3
   unfold laws_FnForces.j1
   repeat' first
   | (with_reducible exact ih0 _ _ _ _ _)
   | (with_reducible exact ih1 _ _ _ _)
   | (with_reducible exact ih2 _ _ _ _ _)
   | (with_reducible exact ih3 _ _ _)
   | (with_reducible exact ih4 _ _ _ _)
   | (with_reducible exact ih5 _ _ _ _)
   | (with_reducible exact ih6 _ _ _ _ _ _)
   | (with_reducible exact ih7 _ _ _ _ _ _)
   | (with_reducible exact impl_HoldForce.mono _ _ _ _)
   | (with_reducible exact impl_MostRaised.mono _ _ _ _)
   | (with_reducible exact impl_PartTensions.mono _ _ _ _ _ _)
   | (with_reducible exact impl_PurchaseForForce.mono _ _ _ _)
   | (with_reducible exact impl_RaiseForce.mono _ _ _ _)
   | (with_reducible exact spec_A2Rough.mono _ _)
   | (with_reducible exact spec_RaiseForce.mono _ _ _ _)
   | (with_reducible exact spec_ValidPurchase.mono _ _ _ _)
   | (with_reducible exact LeO.refl _)
   | (with_reducible exact LeO.none _)
   | (with_reducible refine LeO.ite ?_ ?_)
   | (with_reducible refine LeO.bind ?_ (fun _ => ?_))
   | exact ih0 _ _ _ _ _
   | exact ih1 _ _ _ _
   | exact ih2 _ _ _ _ _
   | exact ih3 _ _ _
   | exact ih4 _ _ _ _
   | exact ih5 _ _ _ _
   | exact ih6 _ _ _ _ _ _
   | exact ih7 _ _ _ _ _ _
   | exact impl_HoldForce.mono _ _ _ _
   | exact impl_MostRaised.mono _ _ _ _
   | exact impl_PartTensions.mono _ _ _ _ _ _
   | exact impl_PurchaseForForce.mono _ _ _ _
   | exact impl_RaiseForce.mono _ _ _ _
   | exact spec_A2Rough.mono _ _
   | exact spec_RaiseForce.mono _ _ _ _
   | exact spec_ValidPurchase.mono _ _ _ _
   | exact LeO.none _
   | refine LeO.ite ?_ ?_
   | refine LeO.bind ?_ (fun _ => ?_)
  ·intro y0 y1 y2 y3 y4
   unfold laws_FnForces.j2
   repeat' first
   | (with_reducible exact ih0 _ _ _ _ _)
   | (with_reducible exact ih1 _ _ _ _)
   | (with_reducible exact ih2 _ _ _ _ _)
   | (with_reducible exact ih3 _ _ _)
   | (with_reducible exact ih4 _ _ _ _)
   | (with_reducible exact ih5 _ _ _ _)
   | (with_reducible exact ih6 _ _ _ _ _ _)
   | (with_reducible exact ih7 _ _ _ _ _ _)
   | (with_reducible exact impl_HoldForce.mono _ _ _ _)
   | (with_reducible exact impl_MostRaised.mono _ _ _ _)
   | (with_reducible exact impl_PartTensions.mono _ _ _ _ _ _)
   | (with_reducible exact impl_PurchaseForForce.mono _ _ _ _)
   | (with_reducible exact impl_RaiseForce.mono _ _ _ _)
   | (with_reducible exact spec_A2Rough.mono _ _)
   | (with_reducible exact spec_RaiseForce.mono _ _ _ _)
   | (with_reducible exact spec_ValidPurchase.mono _ _ _ _)
   | (with_reducible exact LeO.refl _)
   | (with_reducible exact LeO.none _)
   | (with_reducible refine LeO.ite ?_ ?_)
   | (with_reducible refine LeO.bind ?_ (fun _ => ?_))
   | exact ih0 _ _ _ _ _
   | exact ih1 _ _ _ _
   | exact ih2 _ _ _ _ _
   | exact ih3 _ _ _
   | exact ih4 _ _ _ _
   | exact ih5 _ _ _ _
   | exact ih6 _ _ _ _ _ _
   | exact ih7 _ _ _ _ _ _
   | exact impl_HoldForce.mono _ _ _ _
   | exact impl_MostRaised.mono _ _ _ _
   | exact impl_PartTensions.mono _ _ _ _ _ _
   | exact impl_PurchaseForForce.mono _ _ _ _
   | exact impl_RaiseForce.mono _ _ _ _
   | exact spec_A2Rough.mono _ _
   | exact spec_RaiseForce.mono _ _ _ _
   | exact spec_ValidPurchase.mono _ _ _ _
   | exact LeO.none _
   | refine LeO.ite ?_ ?_
   | refine LeO.bind ?_ (fun _ => ?_)
  ·intro y0 y1 y2
   unfold laws_FnForces.j3
   repeat' first
   | (with_reducible exact ih0 _ _ _ _ _)
   | (with_reducible exact ih1 _ _ _ _)
   | (with_reducible exact ih2 _ _ _ _ _)
   | (with_reducible exact ih3 _ _ _)
   | (with_reducible exact ih4 _ _ _ _)
   | (with_reducible exact ih5 _ _ _ _)
   | (with_reducible exact ih6 _ _ _ _ _ _)
   | (with_reducible exact ih7 _ _ _ _ _ _)
   | (with_reducible exact impl_HoldForce.mono _ _ _ _)
   | (with_reducible exact impl_MostRaised.mono _ _ _ _)
   | (with_reducible exact impl_PartTensions.mono _ _ _ _ _ _)
   | (with_reducible exact impl_PurchaseForForce.mono _ _ _ _)
   | (with_reducible exact impl_RaiseForce.mono _ _ _ _)
   | (with_reducible exact spec_A2Rough.mono _ _)
   | (with_reducible exact spec_RaiseForce.mono _ _ _ _)
   | (with_reducible exact spec_ValidPurchase.mono _ _ _ _)
   | (with_reducible exact LeO.refl _)
   | (with_reducible exact LeO.none _)
   | (with_reducible refine LeO.ite ?_ ?_)
   | (with_reducible refine LeO.bind ?_ (fun _ => ?_))
   | exact ih0 _ _ _ _ _
   | exact ih1 _ _ _ _
   | exact ih2 _ _ _ _ _
   | exact ih3 _ _ _
   | exact ih4 _ _ _ _
   | exact ih5 _ _ _ _
   | exact ih6 _ _ _ _ _ _
   | exact ih7 _ _ _ _ _ _
   | exact impl_HoldForce.mono _ _ _ _
   | exact impl_MostRaised.mono _ _ _ _
   | exact impl_PartTensions.mono _ _ _ _ _ _
   | exact impl_PurchaseForForce.mono _ _ _ _
   | exact impl_RaiseForce.mono _ _ _ _
   | exact spec_A2Rough.mono _ _
   | exact spec_RaiseForce.mono _ _ _ _
   | exact spec_ValidPurchase.mono _ _ _ _
   | exact LeO.none _
   | refine LeO.ite ?_ ?_
   | refine LeO.bind ?_ (fun _ => ?_)
  ·intro y0 y1 y2 y3
   unfold laws_FnForces.j4
   repeat' first
   | (with_reducible exact ih0 _ _ _ _ _)
   | (with_reducible exact ih1 _ _ _ _)
   | (with_reducible exact ih2 _ _ _ _ _)
   | (with_reducible exact ih3 _ _ _)
   | (with_reducible exact ih4 _ _ _ _)
   | (with_reducible exact ih5 _ _ _ _)
   | (with_reducible exact ih6 _ _ _ _ _ _)
   | (with_reducible exact ih7 _ _ _ _ _ _)
   | (with_reducible exact impl_HoldForce.mono _ _ _ _)
   | (with_reducible exact impl_MostRaised.mono _ _ _ _)
   | (with_reducible exact impl_PartTensions.mono _ _ _ _ _ _)
   | (with_reducible exact impl_PurchaseForForce.mono _ _ _ _)
   | (with_reducible exact impl_RaiseForce.mono _ _ _ _)
   | (with_reducible exact spec_A2Rough.mono _ _)
   | (with_reducible exact spec_RaiseForce.mono _ _ _ _)
   | (with_reducible exact spec_ValidPurchase.mono _ _ _ _)
   | (with_reducible exact LeO.refl _)
   | (with_reducible exact LeO.none _)
   | (with_reducible refine LeO.ite ?_ ?_)
   | (with_reducible refine LeO.bind ?_ (fun _ => ?_))
   | exact ih0 _ _ _ _ _
   | exact ih1 _ _ _ _
   | exact ih2 _ _ _ _ _
   | exact ih3 _ _ _
   | exact ih4 _ _ _ _
   | exact ih5 _ _ _ _
   | exact ih6 _ _ _ _ _ _
   | exact ih7 _ _ _ _ _ _
   | exact impl_HoldForce.mono _ _ _ _
   | exact impl_MostRaised.mono _ _ _ _
   | exact impl_PartTensions.mono _ _ _ _ _ _
   | exact impl_PurchaseForForce.mono _ _ _ _
   | exact impl_RaiseForce.mono _ _ _ _
   | exact spec_A2Rough.mono _ _
   | exact spec_RaiseForce.mono _ _ _ _
   | exact spec_ValidPurchase.mono _ _ _ _
   | exact LeO.none _
   | refine LeO.ite ?_ ?_
   | refine LeO.bind ?_ (fun _ => ?_)
  ·intro y0 y1 y2 y3
   unfold laws_FnForces.l0
   repeat' first
   | (with_reducible exact ih0 _ _ _ _ _)
   | (with_reducible exact ih1 _ _ _ _)
   | (with_reducible exact ih2 _ _ _ _ _)
   | (with_reducible exact ih3 _ _ _)
   | (with_reducible exact ih4 _ _ _ _)
   | (with_reducible exact ih5 _ _ _ _)
   | (with_reducible exact ih6 _ _ _ _ _ _)
   | (with_reducible exact ih7 _ _ _ _ _ _)
   | (with_reducible exact impl_HoldForce.mono _ _ _ _)
   | (with_reducible exact impl_MostRaised.mono _ _ _ _)
   | (with_reducible exact impl_PartTensions.mono _ _ _ _ _ _)
   | (with_reducible exact impl_PurchaseForForce.mono _ _ _ _)
   | (with_reducible exact impl_RaiseForce.mono _ _ _ _)
   | (with_reducible exact spec_A2Rough.mono _ _)
   | (with_reducible exact spec_RaiseForce.mono _ _ _ _)
   | (with_reducible exact spec_ValidPurchase.mono _ _ _ _)
   | (with_reducible exact LeO.refl _)
   | (with_reducible exact LeO.none _)
   | (with_reducible refine LeO.ite ?_ ?_)
   | (with_reducible refine LeO.bind ?_ (fun _ => ?_))
   | exact ih0 _ _ _ _ _
   | exact ih1 _ _ _ _
   | exact ih2 _ _ _ _ _
   | exact ih3 _ _ _
   | exact ih4 _ _ _ _
   | exact ih5 _ _ _ _
   | exact ih6 _ _ _ _ _ _
   | exact ih7 _ _ _ _ _ _
   | exact impl_HoldForce.mono _ _ _ _
   | exact impl_MostRaised.mono _ _ _ _
   | exact impl_PartTensions.mono _ _ _ _ _ _
   | exact impl_PurchaseForForce.mono _ _ _ _
   | exact impl_RaiseForce.mono _ _ _ _
   | exact spec_A2Rough.mono _ _
   | exact spec_RaiseForce.mono _ _ _ _
   | exact spec_ValidPurchase.mono _ _ _ _
   | exact LeO.none _
   | refine LeO.ite ?_ ?_
   | refine LeO.bind ?_ (fun _ => ?_)
  ·intro y0 y1 y2 y3 y4 y5
   unfold laws_FnForces.j6
   repeat' first
   | (with_reducible exact ih0 _ _ _ _ _)
   | (with_reducible exact ih1 _ _ _ _)
   | (with_reducible exact ih2 _ _ _ _ _)
   | (with_reducible exact ih3 _ _ _)
   | (with_reducible exact ih4 _ _ _ _)
   | (with_reducible exact ih5 _ _ _ _)
   | (with_reducible exact ih6 _ _ _ _ _ _)
   | (with_reducible exact ih7 _ _ _ _ _ _)
   | (with_reducible exact impl_HoldForce.mono _ _ _ _)
   | (with_reducible exact impl_MostRaised.mono _ _ _ _)
   | (with_reducible exact impl_PartTensions.mono _ _ _ _ _ _)
   | (with_reducible exact impl_PurchaseForForce.mono _ _ _ _)
   | (with_reducible exact impl_RaiseForce.mono _ _ _ _)
   | (with_reducible exact spec_A2Rough.mono _ _)
   | (with_reducible exact spec_RaiseForce.mono _ _ _ _)
   | (with_reducible exact spec_ValidPurchase.mono _ _ _ _)
   | (with_reducible exact LeO.refl _)
   | (with_reducible exact LeO.none _)
   | (with_reducible refine LeO.ite ?_ ?_)
   | (with_reducible refine LeO.bind ?_ (fun _ => ?_))
   | exact ih0 _ _ _ _ _
   | exact ih1 _ _ _ _
   | exact ih2 _ _ _ _ _
   | exact ih3 _ _ _
   | exact ih4 _ _ _ _
   | exact ih5 _ _ _ _
   | exact ih6 _ _ _ _ _ _
   | exact ih7 _ _ _ _ _ _
   | exact impl_HoldForce.mono _ _ _ _
   | exact impl_MostRaised.mono _ _ _ _
   | exact impl_PartTensions.mono _ _ _ _ _ _
   | exact impl_PurchaseForForce.mono _ _ _ _
   | exact impl_RaiseForce.mono _ _ _ _
   | exact spec_A2Rough.mono _ _
   | exact spec_RaiseForce.mono _ _ _ _
   | exact spec_ValidPurchase.mono _ _ _ _
   | exact LeO.none _
   | refine LeO.ite ?_ ?_
   | refine LeO.bind ?_ (fun _ => ?_)
  ·intro y0 y1 y2 y3 y4 y5
   unfold laws_FnForces.l1
   repeat' first
   | (with_reducible exact ih0 _ _ _ _ _)
   | (with_reducible exact ih1 _ _ _ _)
   | (with_reducible exact ih2 _ _ _ _ _)
   | (with_reducible exact ih3 _ _ _)
   | (with_reducible exact ih4 _ _ _ _)
   | (with_reducible exact ih5 _ _ _ _)
   | (with_reducible exact ih6 _ _ _ _ _ _)
   | (with_reducible exact ih7 _ _ _ _ _ _)
   | (with_reducible exact impl_HoldForce.mono _ _ _ _)
   | (with_reducible exact impl_MostRaised.mono _ _ _ _)
   | (with_reducible exact impl_PartTensions.mono _ _ _ _ _ _)
   | (with_reducible exact impl_PurchaseForForce.mono _ _ _ _)
   | (with_reducible exact impl_RaiseForce.mono _ _ _ _)
   | (with_reducible exact spec_A2Rough.mono _ _)
   | (with_reducible exact spec_RaiseForce.mono _ _ _ _)
   | (with_reducible exact spec_ValidPurchase.mono _ _ _ _)
   | (with_reducible exact LeO.refl _)
   | (with_reducible exact LeO.none _)
   | (with_reducible refine LeO.ite ?_ ?_)
   | (with_reducible refine LeO.bind ?_ (fun _ => ?_))
   | exact ih0 _ _ _ _ _
   | exact ih1 _ _ _ _
   | exact ih2 _ _ _ _ _
   | exact ih3 _ _ _
   | exact ih4 _ _ _ _
   | exact ih5 _ _ _ _
   | exact ih6 _ _ _ _ _ _
   | exact ih7 _ _ _ _ _ _
   | exact impl_HoldForce.mono _ _ _ _
   | exact impl_MostRaised.mono _ _ _ _
   | exact impl_PartTensions.mono _ _ _ _ _ _
   | exact impl_PurchaseForForce.mono _ _ _ _
   | exact impl_RaiseForce.mono _ _ _ _
   | exact spec_A2Rough.mono _ _
   | exact spec_RaiseForce.mono _ _ _ _
   | exact spec_ValidPurchase.mono _ _ _ _
   | exact LeO.none _
   | refine LeO.ite ?_ ?_
   | refine LeO.bind ?_ (fun _ => ?_)
theorem laws_FnForces.mono : ∀ a0 a1 k, LeO (laws_FnForces.f k a0 a1) (laws_FnForces.f (k + 1) a0 a1) := by
 intro a0 a1 k
 obtain ⟨ih0, ih1, ih2, ih3, ih4, ih5, ih6, ih7⟩ := laws_FnForces.mono_l k
 unfold laws_FnForces.f
 repeat' first
   | (with_reducible exact ih0 _ _ _ _ _)
   | (with_reducible exact ih1 _ _ _ _)
   | (with_reducible exact ih2 _ _ _ _ _)
   | (with_reducible exact ih3 _ _ _)
   | (with_reducible exact ih4 _ _ _ _)
   | (with_reducible exact ih5 _ _ _ _)
   | (with_reducible exact ih6 _ _ _ _ _ _)
   | (with_reducible exact ih7 _ _ _ _ _ _)
   | (with_reducible exact impl_HoldForce.mono _ _ _ _)
   | (with_reducible exact impl_MostRaised.mono _ _ _ _)
   | (with_reducible exact impl_PartTensions.mono _ _ _ _ _ _)
   | (with_reducible exact impl_PurchaseForForce.mono _ _ _ _)
   | (with_reducible exact impl_RaiseForce.mono _ _ _ _)
   | (with_reducible exact spec_A2Rough.mono _ _)
   | (with_reducible exact spec_RaiseForce.mono _ _ _ _)
   | (with_reducible exact spec_ValidPurchase.mono _ _ _ _)
   | (with_reducible exact LeO.refl _)
   | (with_reducible exact LeO.none _)
   | (with_reducible refine LeO.ite ?_ ?_)
   | (with_reducible refine LeO.bind ?_ (fun _ => ?_))
   | exact ih0 _ _ _ _ _
   | exact ih1 _ _ _ _
   | exact ih2 _ _ _ _ _
   | exact ih3 _ _ _
   | exact ih4 _ _ _ _
   | exact ih5 _ _ _ _
   | exact ih6 _ _ _ _ _ _
   | exact ih7 _ _ _ _ _ _
   | exact impl_HoldForce.mono _ _ _ _
   | exact impl_MostRaised.mono _ _ _ _
   | exact impl_PartTensions.mono _ _ _ _ _ _
   | exact impl_PurchaseForForce.mono _ _ _ _
   | exact impl_RaiseForce.mono _ _ _ _
   | exact spec_A2Rough.mono _ _
   | exact spec_RaiseForce.mono _ _ _ _
   | exact spec_ValidPurchase.mono _ _ _ _
   | exact LeO.none _
   | refine LeO.ite ?_ ?_
   | refine LeO.bind ?_ (fun _ => ?_)
set_option maxHeartbeats 8000000 in
set_option maxRecDepth 100000 in
theorem laws_FnForces.calls (k : Nat) (A0 : Option Addr) (c0 : Nat) (l0 : List Int) (A1 : Option Addr) (c1 : Nat) (l1 : List Int) (r : Bool) (w : World) (hr0 : Kd.C (Kd.int .u8) w A0 l0.length l0) (hc0 : l0.length ≤ c0) (hr1 : Kd.C (Kd.int .u8) w A1 l1.length l1) (hc1 : l1.length ≤ c1) (h : laws_FnForces.f k l0 l1 = some r) :
  Calls Try.prog 12 #[.slice A0 l0.length c0, .slice A1 l1.length c1] w fun e w' => e = .returned (.bool r) ∧ Below w.heap.size w w' := by
 have hu27 := Try.underlying27
 have HR0 := Aside0.mk hr0
 have HC0 := Aside0.mk hc0
 clear hr0 hc0
 have HR1 := Aside0.mk hr1
 have HC1 := Aside0.mk hc1
 clear hr1 hc1
 have HB := Aside0.mk (Below.refl w.heap.size w)
 have H : ((laws_a2Long.f l0 l1).bind fun t346 => (if t346 = true then (some true) else ((spec_A2Rough.f k l0).bind fun t347 => ((laws_a2At.f l1 0 8).bind fun t350 => ((laws_a2At.f l1 1 200).bind fun t351 => ((impl_RaiseForce.f k t347 t350 (wrap64 (1 + (wrap64 (t351 * 100))))).bind fun bt352 => ((impl_HoldForce.f k t347 t350 (wrap64 (1 + (wrap64 (t351 * 100))))).bind fun bt354 => (if bt352.2 = 0 then (if bt352.1 < 1 then (laws_FnForces.j0 k t347 t350 (wrap64 (1 + (wrap64 (t351 * 100)))) bt352.1 true) else (if bt352.1 > 100000000 then (laws_FnForces.j0 k t347 t350 (wrap64 (1 + (wrap64 (t351 * 100)))) bt352.1 true) else (if bt354.2 = 0 then (if bt354.1 < 1 then (laws_FnForces.j0 k t347 t350 (wrap64 (1 + (wrap64 (t351 * 100)))) bt352.1 true) else (laws_FnForces.j0 k t347 t350 (wrap64 (1 + (wrap64 (t351 * 100)))) bt352.1 (decide (bt354.1 > bt352.1)))) else (laws_FnForces.j0 k t347 t350 (wrap64 (1 + (wrap64 (t351 * 100)))) bt352.1 true)))) else (laws_FnForces.j0 k t347 t350 (wrap64 (1 + (wrap64 (t351 * 100)))) bt352.1 true))))))))) = some r := h
 clear h
 replace H := Option.bind_eq_some_iff.mp H
 obtain ⟨t346, A30, H⟩ := H
 replace H : (if t346 = true then (some true) else ((spec_A2Rough.f k l0).bind fun t347 => ((laws_a2At.f l1 0 8).bind fun t350 => ((laws_a2At.f l1 1 200).bind fun t351 => ((impl_RaiseForce.f k t347 t350 (wrap64 (1 + (wrap64 (t351 * 100))))).bind fun bt352 => ((impl_HoldForce.f k t347 t350 (wrap64 (1 + (wrap64 (t351 * 100))))).bind fun bt354 => (if bt352.2 = 0 then (if bt352.1 < 1 then (laws_FnForces.j0 k t347 t350 (wrap64 (1 + (wrap64 (t351 * 100)))) bt352.1 true) else (if bt352.1 > 100000000 then (laws_FnForces.j0 k t347 t350 (wrap64 (1 + (wrap64 (t351 * 100)))) bt352.1 true) else (if bt354.2 = 0 then (if bt354.1 < 1 then (laws_FnForces.j0 k t347 t350 (wrap64 (1 + (wrap64 (t351 * 100)))) bt352.1 true) else (laws_FnForces.j0 k t347 t350 (wrap64 (1 + (wrap64 (t351 * 100)))) bt352.1 (decide (bt354.1 > bt352.1)))) else (laws_FnForces.j0 k t347 t350 (wrap64 (1 + (wrap64 (t351 * 100)))) bt352.1 true)))) else (laws_FnForces.j0 k t347 t350 (wrap64 (1 + (wrap64 (t351 * 100)))) bt352.1 true)))))))) = some r := H
 have A3 := Aside0.mk A30
 clear A30
 by_cases c4 : t346 = true
 ·subst c4
  have H1 : (some true) = some r := by rw [if_pos rfl] at H; exact H
  clear H
  have H := H1
  clear H1
  obtain rfl := Option.some.inj H
  go_enter Try.func12, Try.ntmps12
  go_wp2_with (first | (go_at_call 41; (with_reducible refine (laws_a2Long.calls _ _ l0 _ _ l1 true _ ?side1 ?side2 ?side3 ?side4 A3.out).mono ?_); (case side1 => repeat (first | exact HR0.out | (with_reducible refine Kd.C_alloc ?_ _) | (with_reducible refine Kd.C_drewN ?_ _) | (with_reducible refine Kd.C_drew ?_))); (case side2 => exact HC0.out); (case side3 => repeat (first | exact HR1.out | (with_reducible refine Kd.C_alloc ?_ _) | (with_reducible refine Kd.C_drewN ?_ _) | (with_reducible refine Kd.C_drew ?_))); (case side4 => exact HC1.out); rintro e w' ⟨rfl, ⟨nd, rfl⟩⟩; (try first | exact ⟨rfl, _, World.drewN_drewN _ _ _⟩ | exact ⟨rfl, _, Eq.trans (World.drewN_drewN _ _ _) (congrArg (World.drewN _) (Nat.add_assoc _ _ _))⟩)))
  first | go_ret | (repeat (go_quiet (first | (go_at_call 41; (with_reducible refine (laws_a2Long.calls _ _ l0 _ _ l1 true _ ?side1 ?side2 ?side3 ?side4 A3.out).mono ?_); (case side1 => repeat (first | exact HR0.out | (with_reducible refine Kd.C_alloc ?_ _) | (with_reducible refine Kd.C_drewN ?_ _) | (with_reducible refine Kd.C_drew ?_))); (case side2 => exact HC0.out); (case side3 => repeat (first | exact HR1.out | (with_reducible refine Kd.C_alloc ?_ _) | (with_reducible refine Kd.C_drewN ?_ _) | (with_reducible refine Kd.C_drew ?_))); (case side4 => exact HC1.out); rintro e w' ⟨rfl, ⟨nd, rfl⟩⟩; (try first | exact ⟨rfl, _, World.drewN_drewN _ _ _⟩ | exact ⟨rfl, _, Eq.trans (World.drewN_drewN _ _ _) (congrArg (World.drewN _) (Nat.add_assoc _ _ _))⟩))); try go_wp2_with (first | (go_at_call 41; (with_reducible refine (laws_a2Long.calls _ _ l0 _ _ l1 true _ ?side1 ?side2 ?side3 ?side4 A3.out).mono ?_); (case side1 => repeat (first | exact HR0.out | (with_reducible refine Kd.C_alloc ?_ _) | (with_reducible refine Kd.C_drewN ?_ _) | (with_reducible refine Kd.C_drew ?_))); (case side2 => exact HC0.out); (case side3 => repeat (first | exact HR1.out | (with_reducible refine Kd.C_alloc ?_ _) | (with_reducible refine Kd.C_drewN ?_ _) | (with_reducible refine Kd.C_drew ?_))); (case side4 => exact HC1.out); rintro e w' ⟨rfl, ⟨nd, rfl⟩⟩; (try first | exact ⟨rfl, _, World.drewN_drewN _ _ _⟩ | exact ⟨rfl, _, Eq.trans (World.drewN_drewN _ _ _) (congrArg (World.drewN _) (Nat.add_assoc _ _ _))⟩)))); go_ret)
  exact ⟨by first | rfl | (simp [errW_none, errW_some] <;> rfl) | (simp [*, errW_none, errW_some] <;> rfl), by repeat (first | (with_reducible first | exact HB.out | apply below_alloc | apply pw_below_drewN | apply below_drew1) | exact HB.out)⟩
 ·replace c4 := Bool.eq_false_iff.mpr c4
  subst c4
  have H1 : ((spec_A2Rough.f k l0).bind fun t347 => ((laws_a2At.f l1 0 8).bind fun t350 => ((laws_a2At.f l1 1 200).bind fun t351 => ((impl_RaiseForce.f k t347 t350 (wrap64 (1 + (wrap64 (t351 * 100))))).bind fun bt352 => ((impl_HoldForce.f k t347 t350 (wrap64 (1 + (wrap64 (t351 * 100))))).bind fun bt354 => (if bt352.2 = 0 then (if bt352.1 < 1 then (laws_FnForces.j0 k t347 t350 (wrap64 (1 + (wrap64 (t351 * 100)))) bt352.1 true) else (if bt352.1 > 100000000 then (laws_FnForces.j0 k t347 t350 (wrap64 (1 + (wrap64 (t351 * 100)))) bt352.1 true) else (if bt354.2 = 0 then (if bt354.1 < 1 then (laws_FnForces.j0 k t347 t350 (wrap64 (1 + (wrap64 (t351 * 100)))) bt352.1 true) else (laws_FnForces.j0 k t347 t350 (wrap64 (1 + (wrap64 (t351 * 100)))) bt352.1 (decide (bt354.1 > bt352.1)))) else (laws_FnForces.j0 k t347 t350 (wrap64 (1 + (wrap64 (t351 * 100)))) bt352.1 true)))) else (laws_FnForces.j0 k t347 t350 (wrap64 (1 + (wrap64 (t351 * 100)))) bt352.1 true))))))) = some r := by rw [if_neg (show ¬ (false = true) by decide)] at H; exact H
  clear H
  have H := H1
  clear H1
  replace H := Option.bind_eq_some_iff.mp H
  obtain ⟨t347, A50, H⟩ := H
  replace H : ((laws_a2At.f l1 0 8).bind fun t350 => ((laws_a2At.f l1 1 200).bind fun t351 => ((impl_RaiseForce.f k t347 t350 (wrap64 (1 + (wrap64 (t351 * 100))))).bind fun bt352 => ((impl_HoldForce.f k t347 t350 (wrap64 (1 + (wrap64 (t351 * 100))))).bind fun bt354 => (if bt352.2 = 0 then (if bt352.1 < 1 then (laws_FnForces.j0 k t347 t350 (wrap64 (1 + (wrap64 (t351 * 100)))) bt352.1 true) else (if bt352.1 > 100000000 then (laws_FnForces.j0 k t347 t350 (wrap64 (1 + (wrap64 (t351 * 100)))) bt352.1 true) else (if bt354.2 = 0 then (if bt354.1 < 1 then (laws_FnForces.j0 k t347 t350 (wrap64 (1 + (wrap64 (t351 * 100)))) bt352.1 true) else (laws_FnForces.j0 k t347 t350 (wrap64 (1 + (wrap64 (t351 * 100)))) bt352.1 (decide (bt354.1 > bt352.1)))) else (laws_FnForces.j0 k t347 t350 (wrap64 (1 + (wrap64 (t351 * 100)))) bt352.1 true)))) else (laws_FnForces.j0 k t347 t350 (wrap64 (1 + (wrap64 (t351 * 100)))) bt352.1 true)))))) = some r := H
  have A5 := Aside0.mk A50
  clear A50
  replace H := Option.bind_eq_some_iff.mp H
  obtain ⟨t350, A60, H⟩ := H
  replace H : ((laws_a2At.f l1 1 200).bind fun t351 => ((impl_RaiseForce.f k t347 t350 (wrap64 (1 + (wrap64 (t351 * 100))))).bind fun bt352 => ((impl_HoldForce.f k t347 t350 (wrap64 (1 + (wrap64 (t351 * 100))))).bind fun bt354 => (if bt352.2 = 0 then (if bt352.1 < 1 then (laws_FnForces.j0 k t347 t350 (wrap64 (1 + (wrap64 (t351 * 100)))) bt352.1 true) else (if bt352.1 > 100000000 then (laws_FnForces.j0 k t347 t350 (wrap64 (1 + (wrap64 (t351 * 100)))) bt352.1 true) else (if bt354.2 = 0 then (if bt354.1 < 1 then (laws_FnForces.j0 k t347 t350 (wrap64 (1 + (wrap64 (t351 * 100)))) bt352.1 true) else (laws_FnForces.j0 k t347 t350 (wrap64 (1 + (wrap64 (t351 * 100)))) bt352.1 (decide (bt354.1 > bt352.1)))) else (laws_FnForces.j0 k t347 t350 (wrap64 (1 + (wrap64 (t351 * 100)))) bt352.1 true)))) else (laws_FnForces.j0 k t347 t350 (wrap64 (1 + (wrap64 (t351 * 100)))) bt352.1 true))))) = some r := H
  have A6 := Aside0.mk A60
  clear A60
  replace H := Option.bind_eq_some_iff.mp H
  obtain ⟨t351, A70, H⟩ := H
  replace H : ((impl_RaiseForce.f k t347 t350 (wrap64 (1 + (wrap64 (t351 * 100))))).bind fun bt352 => ((impl_HoldForce.f k t347 t350 (wrap64 (1 + (wrap64 (t351 * 100))))).bind fun bt354 => (if bt352.2 = 0 then (if bt352.1 < 1 then (laws_FnForces.j0 k t347 t350 (wrap64 (1 + (wrap64 (t351 * 100)))) bt352.1 true) else (if bt352.1 > 100000000 then (laws_FnForces.j0 k t347 t350 (wrap64 (1 + (wrap64 (t351 * 100)))) bt352.1 true) else (if bt354.2 = 0 then (if bt354.1 < 1 then (laws_FnForces.j0 k t347 t350 (wrap64 (1 + (wrap64 (t351 * 100)))) bt352.1 true) else (laws_FnForces.j0 k t347 t350 (wrap64 (1 + (wrap64 (t351 * 100)))) bt352.1 (decide (bt354.1 > bt352.1)))) else (laws_FnForces.j0 k t347 t350 (wrap64 (1 + (wrap64 (t351 * 100)))) bt352.1 true)))) else (laws_FnForces.j0 k t347 t350 (wrap64 (1 + (wrap64 (t351 * 100)))) bt352.1 true)))) = some r := H
  have A7 := Aside0.mk A70
  clear A70
  replace H := Option.bind_eq_some_iff.mp H
  obtain ⟨⟨t352, t353⟩, A80, H⟩ := H
  replace H : ((impl_HoldForce.f k t347 t350 (wrap64 (1 + (wrap64 (t351 * 100))))).bind fun bt354 => (if t353 = 0 then (if t352 < 1 then (laws_FnForces.j0 k t347 t350 (wrap64 (1 + (wrap64 (t351 * 100)))) t352 true) else (if t352 > 100000000 then (laws_FnForces.j0 k t347 t350 (wrap64 (1 + (wrap64 (t351 * 100)))) t352 true) else (if bt354.2 = 0 then (if bt354.1 < 1 then (laws_FnForces.j0 k t347 t350 (wrap64 (1 + (wrap64 (t351 * 100)))) t352 true) else (laws_FnForces.j0 k t347 t350 (wrap64 (1 + (wrap64 (t351 * 100)))) t352 (decide (bt354.1 > t352)))) else (laws_FnForces.j0 k t347 t350 (wrap64 (1 + (wrap64 (t351 * 100)))) t352 true)))) else (laws_FnForces.j0 k t347 t350 (wrap64 (1 + (wrap64 (t351 * 100)))) t352 true))) = some r := H
  have A8 := Aside0.mk A80
  clear A80
  replace H := Option.bind_eq_some_iff.mp H
  obtain ⟨⟨t354, t355⟩, A90, H⟩ := H
  replace H : (if t353 = 0 then (if t352 < 1 then (laws_FnForces.j0 k t347 t350 (wrap64 (1 + (wrap64 (t351 * 100)))) t352 true) else (if t352 > 100000000 then (laws_FnForces.j0 k t347 t350 (wrap64 (1 + (wrap64 (t351 * 100)))) t352 true) else (if t355 = 0 then (if t354 < 1 then (laws_FnForces.j0 k t347 t350 (wrap64 (1 + (wrap64 (t351 * 100)))) t352 true) else (laws_FnForces.j0 k t347 t350 (wrap64 (1 + (wrap64 (t351 * 100)))) t352 (decide (t354 > t352)))) else (laws_FnForces.j0 k t347 t350 (wrap64 (1 + (wrap64 (t351 * 100)))) t352 true)))) else (laws_FnForces.j0 k t347 t350 (wrap64 (1 + (wrap64 (t351 * 100)))) t352 true)) = some r := H
  have A9 := Aside0.mk A90
  clear A90
  have HC10 := Aside0.mk H
  clear H
  go_enter Try.func12, Try.ntmps12
  go_upto_region 8 with (first | (go_at_call 41; (with_reducible refine (laws_a2Long.calls _ _ l0 _ _ l1 false _ ?side1 ?side2 ?side3 ?side4 A3.out).mono ?_); (case side1 => repeat (first | exact HR0.out | (with_reducible refine Kd.C_alloc ?_ _) | (with_reducible refine Kd.C_drewN ?_ _) | (with_reducible refine Kd.C_drew ?_))); (case side2 => exact HC0.out); (case side3 => repeat (first | exact HR1.out | (with_reducible refine Kd.C_alloc ?_ _) | (with_reducible refine Kd.C_drewN ?_ _) | (with_reducible refine Kd.C_drew ?_))); (case side4 => exact HC1.out); rintro e w' ⟨rfl, ⟨nd, rfl⟩⟩; (try first | exact ⟨rfl, _, World.drewN_drewN _ _ _⟩ | exact ⟨rfl, _, Eq.trans (World.drewN_drewN _ _ _) (congrArg (World.drewN _) (Nat.add_assoc _ _ _))⟩)) | (go_at_call 42; (with_reducible refine (spec_A2Rough.calls k _ _ l0 t347 _ ?side1 ?side2 A5.out).mono ?_); (case side1 => repeat (first | exact HR0.out | (with_reducible refine Kd.C_alloc ?_ _) | (with_reducible refine Kd.C_drewN ?_ _) | (with_reducible refine Kd.C_drew ?_))); (case side2 => exact HC0.out); rintro e w11 ⟨v348, rfl, ho0, hb⟩; have n0_ := Aside0.mk (Kd.R_lower ho0 (below_size (by repeat (first | (with_reducible first | exact HB.out | apply below_alloc | apply pw_below_drewN | apply below_drew1) | exact HB.out)))); have n1_ := Aside0.mk (below_step (by repeat (first | (with_reducible first | exact HB.out | apply below_alloc | apply pw_below_drewN | apply below_drew1) | exact HB.out)) hb); clear HB; have HO349 := n0_; have HB := n1_; clear n0_ n1_; (try clear hb); (try clear hb2); (try clear hk); (try clear hi); (try clear ho0)) | (go_at_call 43; (with_reducible refine (laws_a2At.calls _ _ l1 0 8 t350 _ ?side1 ?side2 A6.out).mono ?_); (case side1 => repeat (first | exact (Kd.C_below HR1.out HB.out) | (with_reducible refine Kd.C_alloc ?_ _) | (with_reducible refine Kd.C_drewN ?_ _) | (with_reducible refine Kd.C_drew ?_))); (case side2 => exact HC1.out); rintro e w' ⟨rfl, ⟨nd, rfl⟩⟩; (try first | exact ⟨rfl, _, World.drewN_drewN _ _ _⟩ | exact ⟨rfl, _, Eq.trans (World.drewN_drewN _ _ _) (congrArg (World.drewN _) (Nat.add_assoc _ _ _))⟩)) | (go_at_call 43; (with_reducible refine (laws_a2At.calls _ _ l1 1 200 t351 _ ?side1 ?side2 A7.out).mono ?_); (case side1 => repeat (first | exact (Kd.C_below HR1.out (by repeat (first | (with_reducible first | exact HB.out | apply below_alloc | apply pw_below_drewN | apply below_drew1) | exact HB.out))) | (with_reducible refine Kd.C_alloc ?_ _) | (with_reducible refine Kd.C_drewN ?_ _) | (with_reducible refine Kd.C_drew ?_))); (case side2 => exact HC1.out); rintro e w' ⟨rfl, ⟨nd, rfl⟩⟩; (try first | exact ⟨rfl, _, World.drewN_drewN _ _ _⟩ | exact ⟨rfl, _, Eq.trans (World.drewN_drewN _ _ _) (congrArg (World.drewN _) (Nat.add_assoc _ _ _))⟩); obtain ⟨Ao12, co12, eo12⟩ := Kd.R_slice HO349.out; subst eo12) | (go_at_call 40; (with_reducible refine (impl_RaiseForce.calls k (fun k_ => some k_ = (.slice Ao12 t347.length co12 : Value).ownBlock) _ _ t347 t350 (wrap64 (1 + (wrap64 (t351 * 100)))) t352 t353 _ ?side1 A8.out).mono ?_); (case side1 => exact Kd.R_V (Kd.R_tight rfl (HO349.out))); rintro e w13 ⟨rfl, hb⟩; have n0_ := Aside0.mk (Kd.R_below (by (with_reducible repeat (first | apply Kd.R_alloc | apply Kd.R_drewN | apply Kd.R_drew)); exact HO349.out) hb); have n1_ := Aside0.mk (below_step (by repeat (first | (with_reducible first | exact HB.out | apply below_alloc | apply pw_below_drewN | apply below_drew1) | exact HB.out)) hb); clear HO349; clear HB; have HO349 := n0_; have HB := n1_; clear n0_ n1_; (try clear hb); (try clear hb2); (try clear hk); (try clear hi)) | (go_at_call 38; (with_reducible refine (impl_HoldForce.calls k (fun k_ => some k_ = (.slice Ao12 t347.length co12 : Value).ownBlock) _ _ t347 t350 (wrap64 (1 + (wrap64 (t351 * 100)))) t354 t355 _ ?side1 A9.out).mono ?_); (case side1 => exact Kd.R_V (Kd.R_tight rfl (HO349.out))); rintro e w14 ⟨rfl, hb⟩; have n0_ := Aside0.mk (Kd.R_below (by (with_reducible repeat (first | apply Kd.R_alloc | apply Kd.R_drewN | apply Kd.R_drew)); exact HO349.out) hb); have n1_ := Aside0.mk (below_step (by repeat (first | (with_reducible first | exact HB.out | apply below_alloc | apply pw_below_drewN | apply below_drew1) | exact HB.out)) hb); clear HO349; clear HB; have HO349 := n0_; have HB := n1_; clear n0_ n1_; (try clear hb); (try clear hb2); (try clear hk); (try clear hi)))
  repeat (go_quiet (first | (go_at_call 41; (with_reducible refine (laws_a2Long.calls _ _ l0 _ _ l1 false _ ?side1 ?side2 ?side3 ?side4 A3.out).mono ?_); (case side1 => repeat (first | exact HR0.out | (with_reducible refine Kd.C_alloc ?_ _) | (with_reducible refine Kd.C_drewN ?_ _) | (with_reducible refine Kd.C_drew ?_))); (case side2 => exact HC0.out); (case side3 => repeat (first | exact HR1.out | (with_reducible refine Kd.C_alloc ?_ _) | (with_reducible refine Kd.C_drewN ?_ _) | (with_reducible refine Kd.C_drew ?_))); (case side4 => exact HC1.out); rintro e w' ⟨rfl, ⟨nd, rfl⟩⟩; (try first | exact ⟨rfl, _, World.drewN_drewN _ _ _⟩ | exact ⟨rfl, _, Eq.trans (World.drewN_drewN _ _ _) (congrArg (World.drewN _) (Nat.add_assoc _ _ _))⟩)) | (go_at_call 42; (with_reducible refine (spec_A2Rough.calls k _ _ l0 t347 _ ?side1 ?side2 A5.out).mono ?_); (case side1 => repeat (first | exact HR0.out | (with_reducible refine Kd.C_alloc ?_ _) | (with_reducible refine Kd.C_drewN ?_ _) | (with_reducible refine Kd.C_drew ?_))); (case side2 => exact HC0.out); rintro e w11 ⟨v348, rfl, ho0, hb⟩; have n0_ := Aside0.mk (Kd.R_lower ho0 (below_size (by repeat (first | (with_reducible first | exact HB.out | apply below_alloc | apply pw_below_drewN | apply below_drew1) | exact HB.out)))); have n1_ := Aside0.mk (below_step (by repeat (first | (with_reducible first | exact HB.out | apply below_alloc | apply pw_below_drewN | apply below_drew1) | exact HB.out)) hb); clear HB; have HO349 := n0_; have HB := n1_; clear n0_ n1_; (try clear hb); (try clear hb2); (try clear hk); (try clear hi); (try clear ho0)) | (go_at_call 43; (with_reducible refine (laws_a2At.calls _ _ l1 0 8 t350 _ ?side1 ?side2 A6.out).mono ?_); (case side1 => repeat (first | exact (Kd.C_below HR1.out HB.out) | (with_reducible refine Kd.C_alloc ?_ _) | (with_reducible refine Kd.C_drewN ?_ _) | (with_reducible refine Kd.C_drew ?_))); (case side2 => exact HC1.out); rintro e w' ⟨rfl, ⟨nd, rfl⟩⟩; (try first | exact ⟨rfl, _, World.drewN_drewN _ _ _⟩ | exact ⟨rfl, _, Eq.trans (World.drewN_drewN _ _ _) (congrArg (World.drewN _) (Nat.add_assoc _ _ _))⟩)) | (go_at_call 43; (with_reducible refine (laws_a2At.calls _ _ l1 1 200 t351 _ ?side1 ?side2 A7.out).mono ?_); (case side1 => repeat (first | exact (Kd.C_below HR1.out (by repeat (first | (with_reducible first | exact HB.out | apply below_alloc | apply pw_below_drewN | apply below_drew1) | exact HB.out))) | (with_reducible refine Kd.C_alloc ?_ _) | (with_reducible refine Kd.C_drewN ?_ _) | (with_reducible refine Kd.C_drew ?_))); (case side2 => exact HC1.out); rintro e w' ⟨rfl, ⟨nd, rfl⟩⟩; (try first | exact ⟨rfl, _, World.drewN_drewN _ _ _⟩ | exact ⟨rfl, _, Eq.trans (World.drewN_drewN _ _ _) (congrArg (World.drewN _) (Nat.add_assoc _ _ _))⟩); obtain ⟨Ao12, co12, eo12⟩ := Kd.R_slice HO349.out; subst eo12) | (go_at_call 40; (with_reducible refine (impl_RaiseForce.calls k (fun k_ => some k_ = (.slice Ao12 t347.length co12 : Value).ownBlock) _ _ t347 t350 (wrap64 (1 + (wrap64 (t351 * 100)))) t352 t353 _ ?side1 A8.out).mono ?_); (case side1 => exact Kd.R_V (Kd.R_tight rfl (HO349.out))); rintro e w13 ⟨rfl, hb⟩; have n0_ := Aside0.mk (Kd.R_below (by (with_reducible repeat (first | apply Kd.R_alloc | apply Kd.R_drewN | apply Kd.R_drew)); exact HO349.out) hb); have n1_ := Aside0.mk (below_step (by repeat (first | (with_reducible first | exact HB.out | apply below_alloc | apply pw_below_drewN | apply below_drew1) | exact HB.out)) hb); clear HO349; clear HB; have HO349 := n0_; have HB := n1_; clear n0_ n1_; (try clear hb); (try clear hb2); (try clear hk); (try clear hi)) | (go_at_call 38; (with_reducible refine (impl_HoldForce.calls k (fun k_ => some k_ = (.slice Ao12 t347.length co12 : Value).ownBlock) _ _ t347 t350 (wrap64 (1 + (wrap64 (t351 * 100)))) t354 t355 _ ?side1 A9.out).mono ?_); (case side1 => exact Kd.R_V (Kd.R_tight rfl (HO349.out))); rintro e w14 ⟨rfl, hb⟩; have n0_ := Aside0.mk (Kd.R_below (by (with_reducible repeat (first | apply Kd.R_alloc | apply Kd.R_drewN | apply Kd.R_drew)); exact HO349.out) hb); have n1_ := Aside0.mk (below_step (by repeat (first | (with_reducible first | exact HB.out | apply below_alloc | apply pw_below_drewN | apply below_drew1) | exact HB.out)) hb); clear HO349; clear HB; have HO349 := n0_; have HB := n1_; clear n0_ n1_; (try clear hb); (try clear hb2); (try clear hk); (try clear hi))); go_upto_region 8 with (first | (go_at_call 41; (with_reducible refine (laws_a2Long.calls _ _ l0 _ _ l1 false _ ?side1 ?side2 ?side3 ?side4 A3.out).mono ?_); (case side1 => repeat (first | exact HR0.out | (with_reducible refine Kd.C_alloc ?_ _) | (with_reducible refine Kd.C_drewN ?_ _) | (with_reducible refine Kd.C_drew ?_))); (case side2 => exact HC0.out); (case side3 => repeat (first | exact HR1.out | (with_reducible refine Kd.C_alloc ?_ _) | (with_reducible refine Kd.C_drewN ?_ _) | (with_reducible refine Kd.C_drew ?_))); (case side4 => exact HC1.out); rintro e w' ⟨rfl, ⟨nd, rfl⟩⟩; (try first | exact ⟨rfl, _, World.drewN_drewN _ _ _⟩ | exact ⟨rfl, _, Eq.trans (World.drewN_drewN _ _ _) (congrArg (World.drewN _) (Nat.add_assoc _ _ _))⟩)) | (go_at_call 42; (with_reducible refine (spec_A2Rough.calls k _ _ l0 t347 _ ?side1 ?side2 A5.out).mono ?_); (case side1 => repeat (first | exact HR0.out | (with_reducible refine Kd.C_alloc ?_ _) | (with_reducible refine Kd.C_drewN ?_ _) | (with_reducible refine Kd.C_drew ?_))); (case side2 => exact HC0.out); rintro e w11 ⟨v348, rfl, ho0, hb⟩; have n0_ := Aside0.mk (Kd.R_lower ho0 (below_size (by repeat (first | (with_reducible first | exact HB.out | apply below_alloc | apply pw_below_drewN | apply below_drew1) | exact HB.out)))); have n1_ := Aside0.mk (below_step (by repeat (first | (with_reducible first | exact HB.out | apply below_alloc | apply pw_below_drewN | apply below_drew1) | exact HB.out)) hb); clear HB; have HO349 := n0_; have HB := n1_; clear n0_ n1_; (try clear hb); (try clear hb2); (try clear hk); (try clear hi); (try clear ho0)) | (go_at_call 43; (with_reducible refine (laws_a2At.calls _ _ l1 0 8 t350 _ ?side1 ?side2 A6.out).mono ?_); (case side1 => repeat (first | exact (Kd.C_below HR1.out HB.out) | (with_reducible refine Kd.C_alloc ?_ _) | (with_reducible refine Kd.C_drewN ?_ _) | (with_reducible refine Kd.C_drew ?_))); (case side2 => exact HC1.out); rintro e w' ⟨rfl, ⟨nd, rfl⟩⟩; (try first | exact ⟨rfl, _, World.drewN_drewN _ _ _⟩ | exact ⟨rfl, _, Eq.trans (World.drewN_drewN _ _ _) (congrArg (World.drewN _) (Nat.add_assoc _ _ _))⟩)) | (go_at_call 43; (with_reducible refine (laws_a2At.calls _ _ l1 1 200 t351 _ ?side1 ?side2 A7.out).mono ?_); (case side1 => repeat (first | exact (Kd.C_below HR1.out (by repeat (first | (with_reducible first | exact HB.out | apply below_alloc | apply pw_below_drewN | apply below_drew1) | exact HB.out))) | (with_reducible refine Kd.C_alloc ?_ _) | (with_reducible refine Kd.C_drewN ?_ _) | (with_reducible refine Kd.C_drew ?_))); (case side2 => exact HC1.out); rintro e w' ⟨rfl, ⟨nd, rfl⟩⟩; (try first | exact ⟨rfl, _, World.drewN_drewN _ _ _⟩ | exact ⟨rfl, _, Eq.trans (World.drewN_drewN _ _ _) (congrArg (World.drewN _) (Nat.add_assoc _ _ _))⟩); obtain ⟨Ao12, co12, eo12⟩ := Kd.R_slice HO349.out; subst eo12) | (go_at_call 40; (with_reducible refine (impl_RaiseForce.calls k (fun k_ => some k_ = (.slice Ao12 t347.length co12 : Value).ownBlock) _ _ t347 t350 (wrap64 (1 + (wrap64 (t351 * 100)))) t352 t353 _ ?side1 A8.out).mono ?_); (case side1 => exact Kd.R_V (Kd.R_tight rfl (HO349.out))); rintro e w13 ⟨rfl, hb⟩; have n0_ := Aside0.mk (Kd.R_below (by (with_reducible repeat (first | apply Kd.R_alloc | apply Kd.R_drewN | apply Kd.R_drew)); exact HO349.out) hb); have n1_ := Aside0.mk (below_step (by repeat (first | (with_reducible first | exact HB.out | apply below_alloc | apply pw_below_drewN | apply below_drew1) | exact HB.out)) hb); clear HO349; clear HB; have HO349 := n0_; have HB := n1_; clear n0_ n1_; (try clear hb); (try clear hb2); (try clear hk); (try clear hi)) | (go_at_call 38; (with_reducible refine (impl_HoldForce.calls k (fun k_ => some k_ = (.slice Ao12 t347.length co12 : Value).ownBlock) _ _ t347 t350 (wrap64 (1 + (wrap64 (t351 * 100)))) t354 t355 _ ?side1 A9.out).mono ?_); (case side1 => exact Kd.R_V (Kd.R_tight rfl (HO349.out))); rintro e w14 ⟨rfl, hb⟩; have n0_ := Aside0.mk (Kd.R_below (by (with_reducible repeat (first | apply Kd.R_alloc | apply Kd.R_drewN | apply Kd.R_drew)); exact HO349.out) hb); have n1_ := Aside0.mk (below_step (by repeat (first | (with_reducible first | exact HB.out | apply below_alloc | apply pw_below_drewN | apply below_drew1) | exact HB.out)) hb); clear HO349; clear HB; have HO349 := n0_; have HB := n1_; clear n0_ n1_; (try clear hb); (try clear hb2); (try clear hk); (try clear hi))))
  (try simp only [Act.put, List.setIfInBounds_toArray, List.set_cons_zero, List.set_cons_succ])
  go_cut [75] (fun v75 wc => ∃ (kq : Nat) (x75_9 : Bool), v75 = .bool x75_9 ∧ Aside0 (laws_FnForces.j0 kq t347 t350 (wrap64 (1 + (wrap64 (t351 * 100)))) t352 x75_9 = some r) ∧ Aside0 (kq ≤ k) ∧ Aside0 (Kd.R k27 27 wc w.heap.size (fun _ => True) (.slice Ao12 t347.length co12) t347) ∧ Aside0 (Below w.heap.size w wc))
  case first => as_aux_lemma =>
   have H := HC10.out
   clear HC10
   by_cases c15 : t353 = 0
   ·rw [if_pos c15] at H
    have c15b0 : (t353 == 0) = true := beq_iff_eq.mpr c15
    have c15b1 : (t353 != 0) = false := bne_eq_false_iff_eq.mpr c15
    clear c15
    (first | rw [c15b0] | (simp only [i64_w, i32_w]; rw [c15b0]) | skip)
    by_cases c16 : t352 < 1
    ·rw [if_pos c16] at H
     have c16b0 : decide (t352 < 1) = true := decide_eq_true c16
     clear c16
     have H' := Aside0.mk H
     clear H
     go_wp2
     first | go_meet | (repeat (go_quiet (fail); try go_wp2); go_meet)
     case rel => exact ⟨_, (true), (by first | rfl | (simp; done) | (simp [*]; done)), H', ⟨by first | omega | exact Nat.le_refl _⟩, ⟨by (with_reducible repeat (first | apply Kd.R_alloc | apply Kd.R_drewN | apply Kd.R_drew)); exact HO349.out⟩, ⟨by repeat (first | (with_reducible first | exact HB.out | apply below_alloc | apply pw_below_drewN | apply below_drew1) | exact HB.out)⟩⟩
    ·rw [if_neg c16] at H
     have c16b0 : decide (t352 < 1) = false := decide_eq_false c16
     clear c16
     by_cases c17 : t352 > 100000000
     ·rw [if_pos c17] at H
      have c17b0 : decide (100000000 < t352) = true := decide_eq_true c17
      clear c17
      have H' := Aside0.mk H
      clear H
      go_wp2
      first | go_meet | (repeat (go_quiet (fail); try go_wp2); go_meet)
      case rel => exact ⟨_, (true), (by first | rfl | (simp; done) | (simp [*]; done)), H', ⟨by first | omega | exact Nat.le_refl _⟩, ⟨by (with_reducible repeat (first | apply Kd.R_alloc | apply Kd.R_drewN | apply Kd.R_drew)); exact HO349.out⟩, ⟨by repeat (first | (with_reducible first | exact HB.out | apply below_alloc | apply pw_below_drewN | apply below_drew1) | exact HB.out)⟩⟩
     ·rw [if_neg c17] at H
      have c17b0 : decide (100000000 < t352) = false := decide_eq_false c17
      clear c17
      by_cases c18 : t355 = 0
      ·rw [if_pos c18] at H
       have c18b0 : (t355 == 0) = true := beq_iff_eq.mpr c18
       have c18b1 : (t355 != 0) = false := bne_eq_false_iff_eq.mpr c18
       clear c18
       by_cases c19 : t354 < 1
       ·rw [if_pos c19] at H
        have c19b0 : decide (t354 < 1) = true := decide_eq_true c19
        clear c19
        have H' := Aside0.mk H
        clear H
        go_wp2
        first | go_meet | (repeat (go_quiet (fail); try go_wp2); go_meet)
        case rel => exact ⟨_, (true), (by first | rfl | (simp; done) | (simp [*]; done)), H', ⟨by first | omega | exact Nat.le_refl _⟩, ⟨by (with_reducible repeat (first | apply Kd.R_alloc | apply Kd.R_drewN | apply Kd.R_drew)); exact HO349.out⟩, ⟨by repeat (first | (with_reducible first | exact HB.out | apply below_alloc | apply pw_below_drewN | apply below_drew1) | exact HB.out)⟩⟩
       ·rw [if_neg c19] at H
        have c19b0 : decide (t354 < 1) = false := decide_eq_false c19
        clear c19
        have H' := Aside0.mk H
        clear H
        go_wp2
        first | go_meet | (repeat (go_quiet (fail); try go_wp2); go_meet)
        case rel => exact ⟨_, (decide (t354 > t352)), (by first | rfl | (simp; done) | (simp [*]; done)), H', ⟨by first | omega | exact Nat.le_refl _⟩, ⟨by (with_reducible repeat (first | apply Kd.R_alloc | apply Kd.R_drewN | apply Kd.R_drew)); exact HO349.out⟩, ⟨by repeat (first | (with_reducible first | exact HB.out | apply below_alloc | apply pw_below_drewN | apply below_drew1) | exact HB.out)⟩⟩
      ·rw [if_neg c18] at H
       have c18b0 : (t355 == 0) = false := beq_eq_false_iff_ne.mpr c18
       have c18b1 : (t355 != 0) = true := bne_iff_ne.mpr c18
       have H' := Aside0.mk H
       clear H
       go_wp2
       first | go_meet | (repeat (go_quiet (fail); try go_wp2); go_meet)
       case rel => exact ⟨_, (true), (by first | rfl | (simp; done) | (simp [*]; done)), H', ⟨by first | omega | exact Nat.le_refl _⟩, ⟨by (with_reducible repeat (first | apply Kd.R_alloc | apply Kd.R_drewN | apply Kd.R_drew)); exact HO349.out⟩, ⟨by repeat (first | (with_reducible first | exact HB.out | apply below_alloc | apply pw_below_drewN | apply below_drew1) | exact HB.out)⟩⟩
   ·rw [if_neg c15] at H
    have c15b0 : (t353 == 0) = false := beq_eq_false_iff_ne.mpr c15
    have c15b1 : (t353 != 0) = true := bne_iff_ne.mpr c15
    (first | rw [c15b0] | (simp only [i64_w, i32_w]; rw [c15b0]) | skip)
    have H' := Aside0.mk H
    clear H
    go_wp2
    first | go_meet | (repeat (go_quiet (fail); try go_wp2); go_meet)
    case rel => exact ⟨_, (true), (by first | rfl | (simp; done) | (simp [*]; done)), H', ⟨by first | omega | exact Nat.le_refl _⟩, ⟨by (with_reducible repeat (first | apply Kd.R_alloc | apply Kd.R_drewN | apply Kd.R_drew)); exact HO349.out⟩, ⟨by repeat (first | (with_reducible first | exact HB.out | apply below_alloc | apply pw_below_drewN | apply below_drew1) | exact HB.out)⟩⟩
  case rest => as_aux_lemma =>
   clear HC10
   try clear c1
   try clear p2
   try clear c4
   try clear p6
   try clear c12
   try clear c15
   try clear c15b0
   try clear c15b1
   try clear c16
   try clear c16b0
   try clear c17
   try clear c17b0
   try clear c18
   try clear c18b0
   try clear c18b1
   try clear c19
   try clear c19b0
   obtain ⟨kq, x75_9, rfl, HA, HJ9, HO_5, HB⟩ := hcut
   cases kq with
   | zero => exact absurd HA.out (by simp [laws_FnForces.j0])
   | succ kj9 =>
    have H := HA.out
    clear HA
    simp only [laws_FnForces.j0] at H
    by_cases c20 : x75_9 = true
    ·subst c20
     have H1 : (some false) = some r := by rw [if_pos rfl] at H; exact H
     clear H
     have H := H1
     clear H1
     obtain rfl := Option.some.inj H
     go_wp2
     first | go_ret | (repeat (go_quiet (fail); try go_wp2); go_ret)
     exact ⟨by first | rfl | (simp [errW_none, errW_some] <;> rfl) | (simp [*, errW_none, errW_some] <;> rfl), by repeat (first | (with_reducible first | exact HB.out | apply below_alloc | apply pw_below_drewN | apply below_drew1) | exact HB.out)⟩
    ·replace c20 := Bool.eq_false_iff.mpr c20
     subst c20
     have H1 : (if t352 ≤ 100000 then ((impl_MostRaised.f kj9 t347 t350 t352).bind fun bt356 => (if bt356.2 = 0 then (if bt356.1 < (wrap64 (1 + (wrap64 (t351 * 100)))) then (some false) else (laws_FnForces.j1 kj9 t347 t350 (wrap64 (1 + (wrap64 (t351 * 100)))) t352)) else (some false))) else (laws_FnForces.j1 kj9 t347 t350 (wrap64 (1 + (wrap64 (t351 * 100)))) t352)) = some r := by rw [if_neg (show ¬ (false = true) by decide)] at H; exact H
     clear H
     have H := H1
     clear H1
     have HC21 := Aside0.mk H
     clear H
     go_upto_if 77 with (fail)
     repeat (go_quiet (fail); go_upto_if 77 with (fail))
     go_cut [] (fun wc => ∃ (kq : Nat), Aside0 (laws_FnForces.j1 kq t347 t350 (wrap64 (1 + (wrap64 (t351 * 100)))) t352 = some r) ∧ Aside0 (kq ≤ kj9) ∧ Aside0 (Kd.R k27 27 wc w.heap.size (fun _ => True) (.slice Ao12 t347.length co12) t347) ∧ Aside0 (Below w.heap.size w wc))
     case first => as_aux_lemma =>
      have H := HC21.out
      clear HC21
      by_cases c22 : t352 ≤ 100000
      ·rw [if_pos c22] at H
       have c22b0 : decide (t352 ≤ 100000) = true := decide_eq_true c22
       clear c22
       (first | rw [c22b0] | (simp only [i64_w, i32_w]; rw [c22b0]) | skip)
       replace H := Option.bind_eq_some_iff.mp H
       obtain ⟨⟨t356, t357⟩, A230, H⟩ := H
       replace H : (if t357 = 0 then (if t356 < (wrap64 (1 + (wrap64 (t351 * 100)))) then (some false) else (laws_FnForces.j1 kj9 t347 t350 (wrap64 (1 + (wrap64 (t351 * 100)))) t352)) else (some false)) = some r := H
       have A23 := Aside0.mk A230
       clear A230
       by_cases c24 : t357 = 0
       ·rw [if_pos c24] at H
        have c24b0 : (t357 == 0) = true := beq_iff_eq.mpr c24
        have c24b1 : (t357 != 0) = false := bne_eq_false_iff_eq.mpr c24
        clear c24
        by_cases c25 : t356 < (wrap64 (1 + (wrap64 (t351 * 100))))
        ·rw [if_pos c25] at H
         have c25b0 : decide (t356 < (wrap64 (1 + (wrap64 (t351 * 100))))) = true := decide_eq_true c25
         clear c25
         obtain rfl := Option.some.inj H
         go_wp2_with (first | (go_at_call 34; (with_reducible refine (impl_MostRaised.calls kj9 (fun k_ => some k_ = (.slice Ao12 t347.length co12 : Value).ownBlock) _ _ t347 t350 t352 t356 t357 _ ?side1 A23.out).mono ?_); (case side1 => exact Kd.R_V (Kd.R_tight rfl (HO_5.out))); rintro e w26 ⟨rfl, hb⟩; have n0_ := Aside0.mk (Kd.R_below (by (with_reducible repeat (first | apply Kd.R_alloc | apply Kd.R_drewN | apply Kd.R_drew)); exact HO_5.out) hb); have n1_ := Aside0.mk (below_step (by repeat (first | (with_reducible first | exact HB.out | apply below_alloc | apply pw_below_drewN | apply below_drew1) | exact HB.out)) hb); clear HO_5; clear HB; have HO_5 := n0_; have HB := n1_; clear n0_ n1_; (try clear hb); (try clear hb2); (try clear hk); (try clear hi)))
         first | go_ret | (repeat (go_quiet (first | (go_at_call 34; (with_reducible refine (impl_MostRaised.calls kj9 (fun k_ => some k_ = (.slice Ao12 t347.length co12 : Value).ownBlock) _ _ t347 t350 t352 t356 t357 _ ?side1 A23.out).mono ?_); (case side1 => exact Kd.R_V (Kd.R_tight rfl (HO_5.out))); rintro e w26 ⟨rfl, hb⟩; have n0_ := Aside0.mk (Kd.R_below (by (with_reducible repeat (first | apply Kd.R_alloc | apply Kd.R_drewN | apply Kd.R_drew)); exact HO_5.out) hb); have n1_ := Aside0.mk (below_step (by repeat (first | (with_reducible first | exact HB.out | apply below_alloc | apply pw_below_drewN | apply below_drew1) | exact HB.out)) hb); clear HO_5; clear HB; have HO_5 := n0_; have HB := n1_; clear n0_ n1_; (try clear hb); (try clear hb2); (try clear hk); (try clear hi))); try go_wp2_with (first | (go_at_call 34; (with_reducible refine (impl_MostRaised.calls kj9 (fun k_ => some k_ = (.slice Ao12 t347.length co12 : Value).ownBlock) _ _ t347 t350 t352 t356 t357 _ ?side1 A23.out).mono ?_); (case side1 => exact Kd.R_V (Kd.R_tight rfl (HO_5.out))); rintro e w26 ⟨rfl, hb⟩; have n0_ := Aside0.mk (Kd.R_below (by (with_reducible repeat (first | apply Kd.R_alloc | apply Kd.R_drewN | apply Kd.R_drew)); exact HO_5.out) hb); have n1_ := Aside0.mk (below_step (by repeat (first | (with_reducible first | exact HB.out | apply below_alloc | apply pw_below_drewN | apply below_drew1) | exact HB.out)) hb); clear HO_5; clear HB; have HO_5 := n0_; have HB := n1_; clear n0_ n1_; (try clear hb); (try clear hb2); (try clear hk); (try clear hi)))); go_ret)
         exact ⟨by first | rfl | (simp [errW_none, errW_some] <;> rfl) | (simp [*, errW_none, errW_some] <;> rfl), by repeat (first | (with_reducible first | exact HB.out | apply below_alloc | apply pw_below_drewN | apply below_drew1) | exact HB.out)⟩
        ·rw [if_neg c25] at H
         have c25b0 : decide (t356 < (wrap64 (1 + (wrap64 (t351 * 100))))) = false := decide_eq_false c25
         clear c25
         have H' := Aside0.mk H
         clear H
         go_wp2_with (first | (go_at_call 34; (with_reducible refine (impl_MostRaised.calls kj9 (fun k_ => some k_ = (.slice Ao12 t347.length co12 : Value).ownBlock) _ _ t347 t350 t352 t356 t357 _ ?side1 A23.out).mono ?_); (case side1 => exact Kd.R_V (Kd.R_tight rfl (HO_5.out))); rintro e w27 ⟨rfl, hb⟩; have n0_ := Aside0.mk (Kd.R_below (by (with_reducible repeat (first | apply Kd.R_alloc | apply Kd.R_drewN | apply Kd.R_drew)); exact HO_5.out) hb); have n1_ := Aside0.mk (below_step (by repeat (first | (with_reducible first | exact HB.out | apply below_alloc | apply pw_below_drewN | apply below_drew1) | exact HB.out)) hb); clear HO_5; clear HB; have HO_5 := n0_; have HB := n1_; clear n0_ n1_; (try clear hb); (try clear hb2); (try clear hk); (try clear hi)))
         first | go_meet | (repeat (go_quiet (first | (go_at_call 34; (with_reducible refine (impl_MostRaised.calls kj9 (fun k_ => some k_ = (.slice Ao12 t347.length co12 : Value).ownBlock) _ _ t347 t350 t352 t356 t357 _ ?side1 A23.out).mono ?_); (case side1 => exact Kd.R_V (Kd.R_tight rfl (HO_5.out))); rintro e w27 ⟨rfl, hb⟩; have n0_ := Aside0.mk (Kd.R_below (by (with_reducible repeat (first | apply Kd.R_alloc | apply Kd.R_drewN | apply Kd.R_drew)); exact HO_5.out) hb); have n1_ := Aside0.mk (below_step (by repeat (first | (with_reducible first | exact HB.out | apply below_alloc | apply pw_below_drewN | apply below_drew1) | exact HB.out)) hb); clear HO_5; clear HB; have HO_5 := n0_; have HB := n1_; clear n0_ n1_; (try clear hb); (try clear hb2); (try clear hk); (try clear hi))); try go_wp2_with (first | (go_at_call 34; (with_reducible refine (impl_MostRaised.calls kj9 (fun k_ => some k_ = (.slice Ao12 t347.length co12 : Value).ownBlock) _ _ t347 t350 t352 t356 t357 _ ?side1 A23.out).mono ?_); (case side1 => exact Kd.R_V (Kd.R_tight rfl (HO_5.out))); rintro e w27 ⟨rfl, hb⟩; have n0_ := Aside0.mk (Kd.R_below (by (with_reducible repeat (first | apply Kd.R_alloc | apply Kd.R_drewN | apply Kd.R_drew)); exact HO_5.out) hb); have n1_ := Aside0.mk (below_step (by repeat (first | (with_reducible first | exact HB.out | apply below_alloc | apply pw_below_drewN | apply below_drew1) | exact HB.out)) hb); clear HO_5; clear HB; have HO_5 := n0_; have HB := n1_; clear n0_ n1_; (try clear hb); (try clear hb2); (try clear hk); (try clear hi)))); go_meet)
         case rel => exact ⟨_, H', ⟨by have := HJ9.out; first | omega | exact Nat.le_refl _⟩, ⟨by (with_reducible repeat (first | apply Kd.R_alloc | apply Kd.R_drewN | apply Kd.R_drew)); exact HO_5.out⟩, ⟨by repeat (first | (with_reducible first | exact HB.out | apply below_alloc | apply pw_below_drewN | apply below_drew1) | exact HB.out)⟩⟩
       ·rw [if_neg c24] at H
        have c24b0 : (t357 == 0) = false := beq_eq_false_iff_ne.mpr c24
        have c24b1 : (t357 != 0) = true := bne_iff_ne.mpr c24
        obtain rfl := Option.some.inj H
        go_wp2_with (first | (go_at_call 34; (with_reducible refine (impl_MostRaised.calls kj9 (fun k_ => some k_ = (.slice Ao12 t347.length co12 : Value).ownBlock) _ _ t347 t350 t352 t356 t357 _ ?side1 A23.out).mono ?_); (case side1 => exact Kd.R_V (Kd.R_tight rfl (HO_5.out))); rintro e w28 ⟨rfl, hb⟩; have n0_ := Aside0.mk (Kd.R_below (by (with_reducible repeat (first | apply Kd.R_alloc | apply Kd.R_drewN | apply Kd.R_drew)); exact HO_5.out) hb); have n1_ := Aside0.mk (below_step (by repeat (first | (with_reducible first | exact HB.out | apply below_alloc | apply pw_below_drewN | apply below_drew1) | exact HB.out)) hb); clear HO_5; clear HB; have HO_5 := n0_; have HB := n1_; clear n0_ n1_; (try clear hb); (try clear hb2); (try clear hk); (try clear hi)))
        first | go_ret | (repeat (go_quiet (first | (go_at_call 34; (with_reducible refine (impl_MostRaised.calls kj9 (fun k_ => some k_ = (.slice Ao12 t347.length co12 : Value).ownBlock) _ _ t347 t350 t352 t356 t357 _ ?side1 A23.out).mono ?_); (case side1 => exact Kd.R_V (Kd.R_tight rfl (HO_5.out))); rintro e w28 ⟨rfl, hb⟩; have n0_ := Aside0.mk (Kd.R_below (by (with_reducible repeat (first | apply Kd.R_alloc | apply Kd.R_drewN | apply Kd.R_drew)); exact HO_5.out) hb); have n1_ := Aside0.mk (below_step (by repeat (first | (with_reducible first | exact HB.out | apply below_alloc | apply pw_below_drewN | apply below_drew1) | exact HB.out)) hb); clear HO_5; clear HB; have HO_5 := n0_; have HB := n1_; clear n0_ n1_; (try clear hb); (try clear hb2); (try clear hk); (try clear hi))); try go_wp2_with (first | (go_at_call 34; (with_reducible refine (impl_MostRaised.calls kj9 (fun k_ => some k_ = (.slice Ao12 t347.length co12 : Value).ownBlock) _ _ t347 t350 t352 t356 t357 _ ?side1 A23.out).mono ?_); (case side1 => exact Kd.R_V (Kd.R_tight rfl (HO_5.out))); rintro e w28 ⟨rfl, hb⟩; have n0_ := Aside0.mk (Kd.R_below (by (with_reducible repeat (first | apply Kd.R_alloc | apply Kd.R_drewN | apply Kd.R_drew)); exact HO_5.out) hb); have n1_ := Aside0.mk (below_step (by repeat (first | (with_reducible first | exact HB.out | apply below_alloc | apply pw_below_drewN | apply below_drew1) | exact HB.out)) hb); clear HO_5; clear HB; have HO_5 := n0_; have HB := n1_; clear n0_ n1_; (try clear hb); (try clear hb2); (try clear hk); (try clear hi)))); go_ret)
        exact ⟨by first | rfl | (simp [errW_none, errW_some] <;> rfl) | (simp [*, errW_none, errW_some] <;> rfl), by repeat (first | (with_reducible first | exact HB.out | apply below_alloc | apply pw_below_drewN | apply below_drew1) | exact HB.out)⟩
      ·rw [if_neg c22] at H
       have c22b0 : decide (t352 ≤ 100000) = false := decide_eq_false c22
       clear c22
       (first | rw [c22b0] | (simp only [i64_w, i32_w]; rw [c22b0]) | skip)
       have H' := Aside0.mk H
       clear H
       go_wp2
       first | go_meet | (repeat (go_quiet (fail); try go_wp2); go_meet)
       case rel => exact ⟨_, H', ⟨by have := HJ9.out; first | omega | exact Nat.le_refl _⟩, ⟨by (with_reducible repeat (first | apply Kd.R_alloc | apply Kd.R_drewN | apply Kd.R_drew)); exact HO_5.out⟩, ⟨by repeat (first | (with_reducible first | exact HB.out | apply below_alloc | apply pw_below_drewN | apply below_drew1) | exact HB.out)⟩⟩
     case rest => as_aux_lemma =>
      clear HC21
      try clear c1
      try clear c2
      try clear p2
      try clear c4
      try clear p6
      try clear c12
      try clear c15
      try clear c15b0
      try clear c15b1
      try clear c16
      try clear c16b0
      try clear c17
      try clear c17b0
      try clear c18
      try clear c18b0
      try clear c18b1
      try clear c19
      try clear c19b0
      try clear c20
      try clear c22
      try clear c22b0
      try clear c24
      try clear c24b0
      try clear c24b1
      try clear c25
      try clear c25b0
      try clear p2
      try clear p6
      obtain ⟨kq, HA, HJ20, HO_5, HB⟩ := hcut
      cases kq with
      | zero => exact absurd HA.out (by simp [laws_FnForces.j1])
      | succ kj20 =>
       have H := HA.out
       clear HA
       simp only [laws_FnForces.j1] at H
       have HC29 := Aside0.mk H
       clear H
       go_upto_region 14 with (fail)
       repeat (go_quiet (fail); go_upto_region 14 with (fail))
       go_cut [97] (fun v97 wc => ∃ (kq : Nat) (x97_28 : Bool), v97 = .bool x97_28 ∧ Aside0 (laws_FnForces.j2 kq t347 t350 (wrap64 (1 + (wrap64 (t351 * 100)))) t352 x97_28 = some r) ∧ Aside0 (kq ≤ kj20) ∧ Aside0 (Kd.R k27 27 wc w.heap.size (fun _ => True) (.slice Ao12 t347.length co12) t347) ∧ Aside0 (Below w.heap.size w wc))
       case first => as_aux_lemma =>
        have H := HC29.out
        clear HC29
        by_cases c30 : t352 > 1
        ·rw [if_pos c30] at H
         have c30b0 : decide (1 < t352) = true := decide_eq_true c30
         clear c30
         (first | rw [c30b0] | (simp only [i64_w, i32_w]; rw [c30b0]) | skip)
         have H' := Aside0.mk H
         clear H
         go_wp2
         first | go_meet | (repeat (go_quiet (fail); try go_wp2); go_meet)
         case rel => exact ⟨_, (decide (t352 ≤ 100001)), (by first | rfl | (simp; done) | (simp [*]; done)), H', ⟨by have := HJ9.out; have := HJ20.out; first | omega | exact Nat.le_refl _⟩, ⟨by (with_reducible repeat (first | apply Kd.R_alloc | apply Kd.R_drewN | apply Kd.R_drew)); exact HO_5.out⟩, ⟨by repeat (first | (with_reducible first | exact HB.out | apply below_alloc | apply pw_below_drewN | apply below_drew1) | exact HB.out)⟩⟩
        ·rw [if_neg c30] at H
         have c30b0 : decide (1 < t352) = false := decide_eq_false c30
         clear c30
         (first | rw [c30b0] | (simp only [i64_w, i32_w]; rw [c30b0]) | skip)
         have H' := Aside0.mk H
         clear H
         go_wp2
         first | go_meet | (repeat (go_quiet (fail); try go_wp2); go_meet)
         case rel => exact ⟨_, (false), (by first | rfl | (simp; done) | (simp [*]; done)), H', ⟨by have := HJ9.out; have := HJ20.out; first | omega | exact Nat.le_refl _⟩, ⟨by (with_reducible repeat (first | apply Kd.R_alloc | apply Kd.R_drewN | apply Kd.R_drew)); exact HO_5.out⟩, ⟨by repeat (first | (with_reducible first | exact HB.out | apply below_alloc | apply pw_below_drewN | apply below_drew1) | exact HB.out)⟩⟩
       case rest => as_aux_lemma =>
        clear HC29
        try clear c1
        try clear c2
        try clear p2
        try clear c3
        try clear c4
        try clear p6
        try clear c12
        try clear c15
        try clear c15b0
        try clear c15b1
        try clear c16
        try clear c16b0
        try clear c17
        try clear c17b0
        try clear c18
        try clear c18b0
        try clear c18b1
        try clear c19
        try clear c19b0
        try clear c20
        try clear c22
        try clear c22b0
        try clear c24
        try clear c24b0
        try clear c24b1
        try clear c25
        try clear c25b0
        try clear c30
        try clear c30b0
        try clear p2
        try clear p6
        obtain ⟨kq, x97_28, rfl, HA, HJ28, HO_5, HB⟩ := hcut
        cases kq with
        | zero => exact absurd HA.out (by simp [laws_FnForces.j2])
        | succ kj28 =>
         have H := HA.out
         clear HA
         simp only [laws_FnForces.j2] at H
         have HC31 := Aside0.mk H
         clear H
         go_upto_if 97 with (fail)
         repeat (go_quiet (fail); go_upto_if 97 with (fail))
         go_cut [] (fun wc => ∃ (kq : Nat), Aside0 (laws_FnForces.j3 kq t347 t350 (wrap64 (1 + (wrap64 (t351 * 100)))) = some r) ∧ Aside0 (kq ≤ kj28) ∧ Aside0 (Kd.R k27 27 wc w.heap.size (fun _ => True) (.slice Ao12 t347.length co12) t347) ∧ Aside0 (Below w.heap.size w wc))
         case first => as_aux_lemma =>
          have H := HC31.out
          clear HC31
          by_cases c32 : x97_28 = true
          ·subst c32
           have H1 : ((impl_MostRaised.f kj28 t347 t350 (wrap64 (t352 - 1))).bind fun bt358 => (if bt358.2 = 0 then (if bt358.1 ≥ (wrap64 (1 + (wrap64 (t351 * 100)))) then (some false) else (laws_FnForces.j3 kj28 t347 t350 (wrap64 (1 + (wrap64 (t351 * 100)))))) else (some false))) = some r := by rw [if_pos rfl] at H; exact H
           clear H
           have H := H1
           clear H1
           replace H := Option.bind_eq_some_iff.mp H
           obtain ⟨⟨t358, t359⟩, A330, H⟩ := H
           replace H : (if t359 = 0 then (if t358 ≥ (wrap64 (1 + (wrap64 (t351 * 100)))) then (some false) else (laws_FnForces.j3 kj28 t347 t350 (wrap64 (1 + (wrap64 (t351 * 100)))))) else (some false)) = some r := H
           have A33 := Aside0.mk A330
           clear A330
           by_cases c34 : t359 = 0
           ·rw [if_pos c34] at H
            have c34b0 : (t359 == 0) = true := beq_iff_eq.mpr c34
            have c34b1 : (t359 != 0) = false := bne_eq_false_iff_eq.mpr c34
            clear c34
            (first | rw [c34b0] | (simp only [i64_w, i32_w]; rw [c34b0]) | skip)
            by_cases c35 : t358 ≥ (wrap64 (1 + (wrap64 (t351 * 100))))
            ·rw [if_pos c35] at H
             have c35b0 : decide ((wrap64 (1 + (wrap64 (t351 * 100)))) ≤ t358) = true := decide_eq_true c35
             clear c35
             obtain rfl := Option.some.inj H
             go_wp2_with (first | (go_at_call 34; (with_reducible refine (impl_MostRaised.calls kj28 (fun k_ => some k_ = (.slice Ao12 t347.length co12 : Value).ownBlock) _ _ t347 t350 (wrap64 (t352 - 1)) t358 t359 _ ?side1 A33.out).mono ?_); (case side1 => exact Kd.R_V (Kd.R_tight rfl (HO_5.out))); rintro e w36 ⟨rfl, hb⟩; have n0_ := Aside0.mk (Kd.R_below (by (with_reducible repeat (first | apply Kd.R_alloc | apply Kd.R_drewN | apply Kd.R_drew)); exact HO_5.out) hb); have n1_ := Aside0.mk (below_step (by repeat (first | (with_reducible first | exact HB.out | apply below_alloc | apply pw_below_drewN | apply below_drew1) | exact HB.out)) hb); clear HO_5; clear HB; have HO_5 := n0_; have HB := n1_; clear n0_ n1_; (try clear hb); (try clear hb2); (try clear hk); (try clear hi)))
             first | go_ret | (repeat (go_quiet (first | (go_at_call 34; (with_reducible refine (impl_MostRaised.calls kj28 (fun k_ => some k_ = (.slice Ao12 t347.length co12 : Value).ownBlock) _ _ t347 t350 (wrap64 (t352 - 1)) t358 t359 _ ?side1 A33.out).mono ?_); (case side1 => exact Kd.R_V (Kd.R_tight rfl (HO_5.out))); rintro e w36 ⟨rfl, hb⟩; have n0_ := Aside0.mk (Kd.R_below (by (with_reducible repeat (first | apply Kd.R_alloc | apply Kd.R_drewN | apply Kd.R_drew)); exact HO_5.out) hb); have n1_ := Aside0.mk (below_step (by repeat (first | (with_reducible first | exact HB.out | apply below_alloc | apply pw_below_drewN | apply below_drew1) | exact HB.out)) hb); clear HO_5; clear HB; have HO_5 := n0_; have HB := n1_; clear n0_ n1_; (try clear hb); (try clear hb2); (try clear hk); (try clear hi))); try go_wp2_with (first | (go_at_call 34; (with_reducible refine (impl_MostRaised.calls kj28 (fun k_ => some k_ = (.slice Ao12 t347.length co12 : Value).ownBlock) _ _ t347 t350 (wrap64 (t352 - 1)) t358 t359 _ ?side1 A33.out).mono ?_); (case side1 => exact Kd.R_V (Kd.R_tight rfl (HO_5.out))); rintro e w36 ⟨rfl, hb⟩; have n0_ := Aside0.mk (Kd.R_below (by (with_reducible repeat (first | apply Kd.R_alloc | apply Kd.R_drewN | apply Kd.R_drew)); exact HO_5.out) hb); have n1_ := Aside0.mk (below_step (by repeat (first | (with_reducible first | exact HB.out | apply below_alloc | apply pw_below_drewN | apply below_drew1) | exact HB.out)) hb); clear HO_5; clear HB; have HO_5 := n0_; have HB := n1_; clear n0_ n1_; (try clear hb); (try clear hb2); (try clear hk); (try clear hi)))); go_ret)
             exact ⟨by first | rfl | (simp [errW_none, errW_some] <;> rfl) | (simp [*, errW_none, errW_some] <;> rfl), by repeat (first | (with_reducible first | exact HB.out | apply below_alloc | apply pw_below_drewN | apply below_drew1) | exact HB.out)⟩
            ·rw [if_neg c35] at H
             have c35b0 : decide ((wrap64 (1 + (wrap64 (t351 * 100)))) ≤ t358) = false := decide_eq_false c35
             clear c35
             have H' := Aside0.mk H
             clear H
             go_wp2_with (first | (go_at_call 34; (with_reducible refine (impl_MostRaised.calls kj28 (fun k_ => some k_ = (.slice Ao12 t347.length co12 : Value).ownBlock) _ _ t347 t350 (wrap64 (t352 - 1)) t358 t359 _ ?side1 A33.out).mono ?_); (case side1 => exact Kd.R_V (Kd.R_tight rfl (HO_5.out))); rintro e w37 ⟨rfl, hb⟩; have n0_ := Aside0.mk (Kd.R_below (by (with_reducible repeat (first | apply Kd.R_alloc | apply Kd.R_drewN | apply Kd.R_drew)); exact HO_5.out) hb); have n1_ := Aside0.mk (below_step (by repeat (first | (with_reducible first | exact HB.out | apply below_alloc | apply pw_below_drewN | apply below_drew1) | exact HB.out)) hb); clear HO_5; clear HB; have HO_5 := n0_; have HB := n1_; clear n0_ n1_; (try clear hb); (try clear hb2); (try clear hk); (try clear hi)))
             first | go_meet | (repeat (go_quiet (first | (go_at_call 34; (with_reducible refine (impl_MostRaised.calls kj28 (fun k_ => some k_ = (.slice Ao12 t347.length co12 : Value).ownBlock) _ _ t347 t350 (wrap64 (t352 - 1)) t358 t359 _ ?side1 A33.out).mono ?_); (case side1 => exact Kd.R_V (Kd.R_tight rfl (HO_5.out))); rintro e w37 ⟨rfl, hb⟩; have n0_ := Aside0.mk (Kd.R_below (by (with_reducible repeat (first | apply Kd.R_alloc | apply Kd.R_drewN | apply Kd.R_drew)); exact HO_5.out) hb); have n1_ := Aside0.mk (below_step (by repeat (first | (with_reducible first | exact HB.out | apply below_alloc | apply pw_below_drewN | apply below_drew1) | exact HB.out)) hb); clear HO_5; clear HB; have HO_5 := n0_; have HB := n1_; clear n0_ n1_; (try clear hb); (try clear hb2); (try clear hk); (try clear hi))); try go_wp2_with (first | (go_at_call 34; (with_reducible refine (impl_MostRaised.calls kj28 (fun k_ => some k_ = (.slice Ao12 t347.length co12 : Value).ownBlock) _ _ t347 t350 (wrap64 (t352 - 1)) t358 t359 _ ?side1 A33.out).mono ?_); (case side1 => exact Kd.R_V (Kd.R_tight rfl (HO_5.out))); rintro e w37 ⟨rfl, hb⟩; have n0_ := Aside0.mk (Kd.R_below (by (with_reducible repeat (first | apply Kd.R_alloc | apply Kd.R_drewN | apply Kd.R_drew)); exact HO_5.out) hb); have n1_ := Aside0.mk (below_step (by repeat (first | (with_reducible first | exact HB.out | apply below_alloc | apply pw_below_drewN | apply below_drew1) | exact HB.out)) hb); clear HO_5; clear HB; have HO_5 := n0_; have HB := n1_; clear n0_ n1_; (try clear hb); (try clear hb2); (try clear hk); (try clear hi)))); go_meet)
             case rel => exact ⟨_, H', ⟨by have := HJ9.out; have := HJ20.out; have := HJ28.out; first | omega | exact Nat.le_refl _⟩, ⟨by (with_reducible repeat (first | apply Kd.R_alloc | apply Kd.R_drewN | apply Kd.R_drew)); exact HO_5.out⟩, ⟨by repeat (first | (with_reducible first | exact HB.out | apply below_alloc | apply pw_below_drewN | apply below_drew1) | exact HB.out)⟩⟩
           ·rw [if_neg c34] at H
            have c34b0 : (t359 == 0) = false := beq_eq_false_iff_ne.mpr c34
            have c34b1 : (t359 != 0) = true := bne_iff_ne.mpr c34
            (first | rw [c34b0] | (simp only [i64_w, i32_w]; rw [c34b0]) | skip)
            obtain rfl := Option.some.inj H
            go_wp2_with (first | (go_at_call 34; (with_reducible refine (impl_MostRaised.calls kj28 (fun k_ => some k_ = (.slice Ao12 t347.length co12 : Value).ownBlock) _ _ t347 t350 (wrap64 (t352 - 1)) t358 t359 _ ?side1 A33.out).mono ?_); (case side1 => exact Kd.R_V (Kd.R_tight rfl (HO_5.out))); rintro e w38 ⟨rfl, hb⟩; have n0_ := Aside0.mk (Kd.R_below (by (with_reducible repeat (first | apply Kd.R_alloc | apply Kd.R_drewN | apply Kd.R_drew)); exact HO_5.out) hb); have n1_ := Aside0.mk (below_step (by repeat (first | (with_reducible first | exact HB.out | apply below_alloc | apply pw_below_drewN | apply below_drew1) | exact HB.out)) hb); clear HO_5; clear HB; have HO_5 := n0_; have HB := n1_; clear n0_ n1_; (try clear hb); (try clear hb2); (try clear hk); (try clear hi)))
            first | go_ret | (repeat (go_quiet (first | (go_at_call 34; (with_reducible refine (impl_MostRaised.calls kj28 (fun k_ => some k_ = (.slice Ao12 t347.length co12 : Value).ownBlock) _ _ t347 t350 (wrap64 (t352 - 1)) t358 t359 _ ?side1 A33.out).mono ?_); (case side1 => exact Kd.R_V (Kd.R_tight rfl (HO_5.out))); rintro e w38 ⟨rfl, hb⟩; have n0_ := Aside0.mk (Kd.R_below (by (with_reducible repeat (first | apply Kd.R_alloc | apply Kd.R_drewN | apply Kd.R_drew)); exact HO_5.out) hb); have n1_ := Aside0.mk (below_step (by repeat (first | (with_reducible first | exact HB.out | apply below_alloc | apply pw_below_drewN | apply below_drew1) | exact HB.out)) hb); clear HO_5; clear HB; have HO_5 := n0_; have HB := n1_; clear n0_ n1_; (try clear hb); (try clear hb2); (try clear hk); (try clear hi))); try go_wp2_with (first | (go_at_call 34; (with_reducible refine (impl_MostRaised.calls kj28 (fun k_ => some k_ = (.slice Ao12 t347.length co12 : Value).ownBlock) _ _ t347 t350 (wrap64 (t352 - 1)) t358 t359 _ ?side1 A33.out).mono ?_); (case side1 => exact Kd.R_V (Kd.R_tight rfl (HO_5.out))); rintro e w38 ⟨rfl, hb⟩; have n0_ := Aside0.mk (Kd.R_below (by (with_reducible repeat (first | apply Kd.R_alloc | apply Kd.R_drewN | apply Kd.R_drew)); exact HO_5.out) hb); have n1_ := Aside0.mk (below_step (by repeat (first | (with_reducible first | exact HB.out | apply below_alloc | apply pw_below_drewN | apply below_drew1) | exact HB.out)) hb); clear HO_5; clear HB; have HO_5 := n0_; have HB := n1_; clear n0_ n1_; (try clear hb); (try clear hb2); (try clear hk); (try clear hi)))); go_ret)
            exact ⟨by first | rfl | (simp [errW_none, errW_some] <;> rfl) | (simp [*, errW_none, errW_some] <;> rfl), by repeat (first | (with_reducible first | exact HB.out | apply below_alloc | apply pw_below_drewN | apply below_drew1) | exact HB.out)⟩
          ·replace c32 := Bool.eq_false_iff.mpr c32
           subst c32
           have H1 : (laws_FnForces.j3 kj28 t347 t350 (wrap64 (1 + (wrap64 (t351 * 100))))) = some r := by rw [if_neg (show ¬ (false = true) by decide)] at H; exact H
           clear H
           have H := H1
           clear H1
           have H' := Aside0.mk H
           clear H
           go_wp2
           first | go_meet | (repeat (go_quiet (fail); try go_wp2); go_meet)
           case rel => exact ⟨_, H', ⟨by have := HJ9.out; have := HJ20.out; have := HJ28.out; first | omega | exact Nat.le_refl _⟩, ⟨by (with_reducible repeat (first | apply Kd.R_alloc | apply Kd.R_drewN | apply Kd.R_drew)); exact HO_5.out⟩, ⟨by repeat (first | (with_reducible first | exact HB.out | apply below_alloc | apply pw_below_drewN | apply below_drew1) | exact HB.out)⟩⟩
         case rest => as_aux_lemma =>
          clear HC31
          try clear c1
          try clear c2
          try clear p2
          try clear c3
          try clear c4
          try clear p6
          try clear c12
          try clear c15
          try clear c15b0
          try clear c15b1
          try clear c16
          try clear c16b0
          try clear c17
          try clear c17b0
          try clear c18
          try clear c18b0
          try clear c18b1
          try clear c19
          try clear c19b0
          try clear c20
          try clear c22
          try clear c22b0
          try clear c24
          try clear c24b0
          try clear c24b1
          try clear c25
          try clear c25b0
          try clear c30
          try clear c30b0
          try clear c32
          try clear c34
          try clear c34b0
          try clear c34b1
          try clear c35
          try clear c35b0
          try clear p2
          try clear p6
          obtain ⟨kq, HA, HJ30, HO_5, HB⟩ := hcut
          cases kq with
          | zero => exact absurd HA.out (by simp [laws_FnForces.j3])
          | succ kj30 =>
           have H := HA.out
           clear HA
           simp only [laws_FnForces.j3] at H
           by_cases c39 : 0 < (t347.length : Int)
           ·rw [if_pos c39] at H
            have c39b0 : decide (0 < (t347.length : Int)) = true := decide_eq_true c39
            have c39b1 : decide (0 < t347.length) = true := decide_eq_true (by omega)
            clear c39
            replace H := Option.bind_eq_some_iff.mp H
            obtain ⟨⟨t361, t364⟩, A400, H⟩ := H
            replace H : (if t364 = 0 then (if (t361.length : Int) = (wrap64 ((wrap64 (((rd_T27 t347 0).f0) + ((rd_T27 t347 0).f1))) + 1)) then (if 0 < (t361.length : Int) then (if ((rd_T35 t361 0).f0) = (wrap64 (1 + (wrap64 (t351 * 100)))) then (laws_FnForces.j4 kj30 t350 (wrap64 (1 + (wrap64 (t351 * 100)))) t361 (((rd_T35 t361 0).f1) != 1)) else (laws_FnForces.j4 kj30 t350 (wrap64 (1 + (wrap64 (t351 * 100)))) t361 true)) else (none)) else (laws_FnForces.j4 kj30 t350 (wrap64 (1 + (wrap64 (t351 * 100)))) t361 true)) else (laws_FnForces.j4 kj30 t350 (wrap64 (1 + (wrap64 (t351 * 100)))) t361 true)) = some r := H
            have A40 := Aside0.mk A400
            clear A400
            have HC41 := Aside0.mk H
            clear H
            have p360 : 0 ≤ (0 : Int) := (by omega)
            have q360 : 0 < (t347.length : Int) := of_decide_eq_true (by first | (with_reducible assumption) | assumption)
            obtain ⟨ad360, e360, hx360_0, hx360_1, hx360_2⟩ := at_T27 (Kd.R_reads' HO_5.out).2.2 0 p360 q360
            cases e360
            have qi360 : (0 < t347.length) = True := eq_true (by omega)
            (try rw [show ((0 : Int)).toNat = 0 from rfl] at hx360_0)
            (try rw [show 0 * 3 = 0 from rfl] at hx360_0)
            (try rw [Addr.add_zero'] at hx360_0)
            (try rw [show ((0 : Int)).toNat = 0 from rfl] at hx360_1)
            (try rw [show 0 * 3 = 0 from rfl] at hx360_1)
            (try rw [Addr.add_zero'] at hx360_1)
            (try rw [show ((0 : Int)).toNat = 0 from rfl] at hx360_2)
            (try rw [show 0 * 3 = 0 from rfl] at hx360_2)
            (try rw [Addr.add_zero'] at hx360_2)
            replace p360 := eq_true p360
            replace q360 := eq_true q360
            go_upto_region 19 with (first | (go_at_call 16; (with_reducible refine (impl_PartTensions.calls kj30 ((rd_T27 t347 0).f0) ((rd_T27 t347 0).f1) ((rd_T27 t347 0).f2) t350 (wrap64 (1 + (wrap64 (t351 * 100)))) t361 t364 _ A40.out).mono ?_); rintro e w42 ⟨v362, rfl, ho0, hb⟩; have n0_ := Aside0.mk (Kd.R_below (by (with_reducible repeat (first | apply Kd.R_alloc | apply Kd.R_drewN | apply Kd.R_drew)); exact HO_5.out) hb); have n1_ := Aside0.mk (Kd.R_lower ho0 (below_size (by repeat (first | (with_reducible first | exact HB.out | apply below_alloc | apply pw_below_drewN | apply below_drew1) | exact HB.out)))); have n2_ := Aside0.mk (below_step (by repeat (first | (with_reducible first | exact HB.out | apply below_alloc | apply pw_below_drewN | apply below_drew1) | exact HB.out)) hb); clear HO_5; clear HB; have HO_5 := n0_; have HO363 := n1_; have HB := n2_; clear n0_ n1_ n2_; (try clear hb); (try clear hb2); (try clear hk); (try clear hi); (try clear ho0)))
            repeat (go_quiet (first | (go_at_call 16; (with_reducible refine (impl_PartTensions.calls kj30 ((rd_T27 t347 0).f0) ((rd_T27 t347 0).f1) ((rd_T27 t347 0).f2) t350 (wrap64 (1 + (wrap64 (t351 * 100)))) t361 t364 _ A40.out).mono ?_); rintro e w42 ⟨v362, rfl, ho0, hb⟩; have n0_ := Aside0.mk (Kd.R_below (by (with_reducible repeat (first | apply Kd.R_alloc | apply Kd.R_drewN | apply Kd.R_drew)); exact HO_5.out) hb); have n1_ := Aside0.mk (Kd.R_lower ho0 (below_size (by repeat (first | (with_reducible first | exact HB.out | apply below_alloc | apply pw_below_drewN | apply below_drew1) | exact HB.out)))); have n2_ := Aside0.mk (below_step (by repeat (first | (with_reducible first | exact HB.out | apply below_alloc | apply pw_below_drewN | apply below_drew1) | exact HB.out)) hb); clear HO_5; clear HB; have HO_5 := n0_; have HO363 := n1_; have HB := n2_; clear n0_ n1_ n2_; (try clear hb); (try clear hb2); (try clear hk); (try clear hi); (try clear ho0))); go_upto_region 19 with (first | (go_at_call 16; (with_reducible refine (impl_PartTensions.calls kj30 ((rd_T27 t347 0).f0) ((rd_T27 t347 0).f1) ((rd_T27 t347 0).f2) t350 (wrap64 (1 + (wrap64 (t351 * 100)))) t361 t364 _ A40.out).mono ?_); rintro e w42 ⟨v362, rfl, ho0, hb⟩; have n0_ := Aside0.mk (Kd.R_below (by (with_reducible repeat (first | apply Kd.R_alloc | apply Kd.R_drewN | apply Kd.R_drew)); exact HO_5.out) hb); have n1_ := Aside0.mk (Kd.R_lower ho0 (below_size (by repeat (first | (with_reducible first | exact HB.out | apply below_alloc | apply pw_below_drewN | apply below_drew1) | exact HB.out)))); have n2_ := Aside0.mk (below_step (by repeat (first | (with_reducible first | exact HB.out | apply below_alloc | apply pw_below_drewN | apply below_drew1) | exact HB.out)) hb); clear HO_5; clear HB; have HO_5 := n0_; have HO363 := n1_; have HB := n2_; clear n0_ n1_ n2_; (try clear hb); (try clear hb2); (try clear hk); (try clear hi); (try clear ho0))))
            (try simp only [Act.put, List.setIfInBounds_toArray, List.set_cons_zero, List.set_cons_succ])
            go_cut [153] (fun v153 wc => ∃ (kq : Nat) (x153_40 : Bool), v153 = .bool x153_40 ∧ Aside0 (laws_FnForces.j4 kq t350 (wrap64 (1 + (wrap64 (t351 * 100)))) t361 x153_40 = some r) ∧ Aside0 (kq ≤ kj30) ∧ Aside0 (Kd.R k35 35 wc w.heap.size (fun _ => True) v362 t361) ∧ Aside0 (Below w.heap.size w wc))
            case first => as_aux_lemma =>
             have H := HC41.out
             clear HC41
             by_cases c43 : t364 = 0
             ·rw [if_pos c43] at H
              have c43b0 : (t364 == 0) = true := beq_iff_eq.mpr c43
              have c43b1 : (t364 != 0) = false := bne_eq_false_iff_eq.mpr c43
              clear c43
              (first | rw [c43b0] | (simp only [i64_w, i32_w]; rw [c43b0]) | skip)
              by_cases c44 : (t361.length : Int) = (wrap64 ((wrap64 (((rd_T27 t347 0).f0) + ((rd_T27 t347 0).f1))) + 1))
              ·rw [if_pos c44] at H
               have c44b0 : ((t361.length : Int) == (wrap64 ((wrap64 (((rd_T27 t347 0).f0) + ((rd_T27 t347 0).f1))) + 1))) = true := beq_iff_eq.mpr c44
               have c44b1 : ((t361.length : Int) != (wrap64 ((wrap64 (((rd_T27 t347 0).f0) + ((rd_T27 t347 0).f1))) + 1))) = false := bne_eq_false_iff_eq.mpr c44
               clear c44
               by_cases c45 : 0 < (t361.length : Int)
               ·rw [if_pos c45] at H
                have c45b0 : decide (0 < (t361.length : Int)) = true := decide_eq_true c45
                have c45b1 : decide (0 < t361.length) = true := decide_eq_true (by omega)
                clear c45
                by_cases c46 : ((rd_T35 t361 0).f0) = (wrap64 (1 + (wrap64 (t351 * 100))))
                ·rw [if_pos c46] at H
                 have c46b0 : (((rd_T35 t361 0).f0) == (wrap64 (1 + (wrap64 (t351 * 100))))) = true := beq_iff_eq.mpr c46
                 have c46b1 : (((rd_T35 t361 0).f0) != (wrap64 (1 + (wrap64 (t351 * 100))))) = false := bne_eq_false_iff_eq.mpr c46
                 clear c46
                 have H' := Aside0.mk H
                 clear H
                 obtain ⟨Ao47, co47, eo47⟩ := Kd.R_slice HO363.out
                 subst eo47
                 have p365 : 0 ≤ (0 : Int) := (by omega)
                 have q365 : 0 < (t347.length : Int) := of_decide_eq_true (by first | (with_reducible assumption) | assumption)
                 obtain ⟨ad365, e365, hx365_0, hx365_1, hx365_2⟩ := at_T27 (Kd.R_reads' HO_5.out).2.2 0 p365 q365
                 obtain rfl : ad360 = ad365 := (by injection e365)
                 have qi365 : (0 < t347.length) = True := eq_true (by omega)
                 (try rw [show ((0 : Int)).toNat = 0 from rfl] at hx365_0)
                 (try rw [show 0 * 3 = 0 from rfl] at hx365_0)
                 (try rw [Addr.add_zero'] at hx365_0)
                 (try rw [show ((0 : Int)).toNat = 0 from rfl] at hx365_1)
                 (try rw [show 0 * 3 = 0 from rfl] at hx365_1)
                 (try rw [Addr.add_zero'] at hx365_1)
                 (try rw [show ((0 : Int)).toNat = 0 from rfl] at hx365_2)
                 (try rw [show 0 * 3 = 0 from rfl] at hx365_2)
                 (try rw [Addr.add_zero'] at hx365_2)
                 replace p365 := eq_true p365
                 replace q365 := eq_true q365
                 have p366 : 0 ≤ (0 : Int) := (by omega)
                 have q366 : 0 < (t347.length : Int) := of_decide_eq_true (by first | (with_reducible assumption) | assumption)
                 obtain ⟨ad366, e366, hx366_0, hx366_1, hx366_2⟩ := at_T27 (Kd.R_reads' HO_5.out).2.2 0 p366 q366
                 obtain rfl : ad360 = ad366 := (by injection e366)
                 have qi366 : (0 < t347.length) = True := eq_true (by omega)
                 (try rw [show ((0 : Int)).toNat = 0 from rfl] at hx366_0)
                 (try rw [show 0 * 3 = 0 from rfl] at hx366_0)
                 (try rw [Addr.add_zero'] at hx366_0)
                 (try rw [show ((0 : Int)).toNat = 0 from rfl] at hx366_1)
                 (try rw [show 0 * 3 = 0 from rfl] at hx366_1)
                 (try rw [Addr.add_zero'] at hx366_1)
                 (try rw [show ((0 : Int)).toNat = 0 from rfl] at hx366_2)
                 (try rw [show 0 * 3 = 0 from rfl] at hx366_2)
                 (try rw [Addr.add_zero'] at hx366_2)
                 replace p366 := eq_true p366
                 replace q366 := eq_true q366
                 have p367 : 0 ≤ (0 : Int) := (by omega)
                 have q367 : 0 < (t361.length : Int) := of_decide_eq_true (by first | (with_reducible assumption) | assumption)
                 obtain ⟨ad367, e367, hx367_0, hx367_1⟩ := at_T35 (Kd.R_reads' HO363.out).2.2 0 p367 q367
                 cases e367
                 have qi367 : (0 < t361.length) = True := eq_true (by omega)
                 (try rw [show ((0 : Int)).toNat = 0 from rfl] at hx367_0)
                 (try rw [show 0 * 2 = 0 from rfl] at hx367_0)
                 (try rw [Addr.add_zero'] at hx367_0)
                 (try rw [show ((0 : Int)).toNat = 0 from rfl] at hx367_1)
                 (try rw [show 0 * 2 = 0 from rfl] at hx367_1)
                 (try rw [Addr.add_zero'] at hx367_1)
                 replace p367 := eq_true p367
                 replace q367 := eq_true q367
                 have p368 : 0 ≤ (0 : Int) := (by omega)
                 have q368 : 0 < (t361.length : Int) := of_decide_eq_true (by first | (with_reducible assumption) | assumption)
                 obtain ⟨ad368, e368, hx368_0, hx368_1⟩ := at_T35 (Kd.R_reads' HO363.out).2.2 0 p368 q368
                 obtain rfl : ad367 = ad368 := (by injection e368)
                 have qi368 : (0 < t361.length) = True := eq_true (by omega)
                 (try rw [show ((0 : Int)).toNat = 0 from rfl] at hx368_0)
                 (try rw [show 0 * 2 = 0 from rfl] at hx368_0)
                 (try rw [Addr.add_zero'] at hx368_0)
                 (try rw [show ((0 : Int)).toNat = 0 from rfl] at hx368_1)
                 (try rw [show 0 * 2 = 0 from rfl] at hx368_1)
                 (try rw [Addr.add_zero'] at hx368_1)
                 replace p368 := eq_true p368
                 replace q368 := eq_true q368
                 go_wp2
                 first | go_meet | (repeat (go_quiet (fail); try go_wp2); go_meet)
                 case rel => exact ⟨_, ((((rd_T35 t361 0).f1) != 1)), (by first | rfl | (simp; done) | (simp [*]; done)), H', ⟨by have := HJ9.out; have := HJ20.out; have := HJ28.out; have := HJ30.out; first | omega | exact Nat.le_refl _⟩, ⟨by (with_reducible repeat (first | apply Kd.R_alloc | apply Kd.R_drewN | apply Kd.R_drew)); exact HO363.out⟩, ⟨by repeat (first | (with_reducible first | exact HB.out | apply below_alloc | apply pw_below_drewN | apply below_drew1) | exact HB.out)⟩⟩
                ·rw [if_neg c46] at H
                 have c46b0 : (((rd_T35 t361 0).f0) == (wrap64 (1 + (wrap64 (t351 * 100))))) = false := beq_eq_false_iff_ne.mpr c46
                 have c46b1 : (((rd_T35 t361 0).f0) != (wrap64 (1 + (wrap64 (t351 * 100))))) = true := bne_iff_ne.mpr c46
                 have H' := Aside0.mk H
                 clear H
                 obtain ⟨Ao48, co48, eo48⟩ := Kd.R_slice HO363.out
                 subst eo48
                 have p365 : 0 ≤ (0 : Int) := (by omega)
                 have q365 : 0 < (t347.length : Int) := of_decide_eq_true (by first | (with_reducible assumption) | assumption)
                 obtain ⟨ad365, e365, hx365_0, hx365_1, hx365_2⟩ := at_T27 (Kd.R_reads' HO_5.out).2.2 0 p365 q365
                 obtain rfl : ad360 = ad365 := (by injection e365)
                 have qi365 : (0 < t347.length) = True := eq_true (by omega)
                 (try rw [show ((0 : Int)).toNat = 0 from rfl] at hx365_0)
                 (try rw [show 0 * 3 = 0 from rfl] at hx365_0)
                 (try rw [Addr.add_zero'] at hx365_0)
                 (try rw [show ((0 : Int)).toNat = 0 from rfl] at hx365_1)
                 (try rw [show 0 * 3 = 0 from rfl] at hx365_1)
                 (try rw [Addr.add_zero'] at hx365_1)
                 (try rw [show ((0 : Int)).toNat = 0 from rfl] at hx365_2)
                 (try rw [show 0 * 3 = 0 from rfl] at hx365_2)
                 (try rw [Addr.add_zero'] at hx365_2)
                 replace p365 := eq_true p365
                 replace q365 := eq_true q365
                 have p366 : 0 ≤ (0 : Int) := (by omega)
                 have q366 : 0 < (t347.length : Int) := of_decide_eq_true (by first | (with_reducible assumption) | assumption)
                 obtain ⟨ad366, e366, hx366_0, hx366_1, hx366_2⟩ := at_T27 (Kd.R_reads' HO_5.out).2.2 0 p366 q366
                 obtain rfl : ad360 = ad366 := (by injection e366)
                 have qi366 : (0 < t347.length) = True := eq_true (by omega)
                 (try rw [show ((0 : Int)).toNat = 0 from rfl] at hx366_0)
                 (try rw [show 0 * 3 = 0 from rfl] at hx366_0)
                 (try rw [Addr.add_zero'] at hx366_0)
                 (try rw [show ((0 : Int)).toNat = 0 from rfl] at hx366_1)
                 (try rw [show 0 * 3 = 0 from rfl] at hx366_1)
                 (try rw [Addr.add_zero'] at hx366_1)
                 (try rw [show ((0 : Int)).toNat = 0 from rfl] at hx366_2)
                 (try rw [show 0 * 3 = 0 from rfl] at hx366_2)
                 (try rw [Addr.add_zero'] at hx366_2)
                 replace p366 := eq_true p366
                 replace q366 := eq_true q366
                 have p367 : 0 ≤ (0 : Int) := (by omega)
                 have q367 : 0 < (t361.length : Int) := of_decide_eq_true (by first | (with_reducible assumption) | assumption)
                 obtain ⟨ad367, e367, hx367_0, hx367_1⟩ := at_T35 (Kd.R_reads' HO363.out).2.2 0 p367 q367
                 cases e367
                 have qi367 : (0 < t361.length) = True := eq_true (by omega)
                 (try rw [show ((0 : Int)).toNat = 0 from rfl] at hx367_0)
                 (try rw [show 0 * 2 = 0 from rfl] at hx367_0)
                 (try rw [Addr.add_zero'] at hx367_0)
                 (try rw [show ((0 : Int)).toNat = 0 from rfl] at hx367_1)
                 (try rw [show 0 * 2 = 0 from rfl] at hx367_1)
                 (try rw [Addr.add_zero'] at hx367_1)
                 replace p367 := eq_true p367
                 replace q367 := eq_true q367
                 go_wp2
                 first | go_meet | (repeat (go_quiet (fail); try go_wp2); go_meet)
                 case rel => exact ⟨_, (true), (by first | rfl | (simp; done) | (simp [*]; done)), H', ⟨by have := HJ9.out; have := HJ20.out; have := HJ28.out; have := HJ30.out; first | omega | exact Nat.le_refl _⟩, ⟨by (with_reducible repeat (first | apply Kd.R_alloc | apply Kd.R_drewN | apply Kd.R_drew)); exact HO363.out⟩, ⟨by repeat (first | (with_reducible first | exact HB.out | apply below_alloc | apply pw_below_drewN | apply below_drew1) | exact HB.out)⟩⟩
               ·rw [if_neg c45] at H
                exact absurd H (by simp)
              ·rw [if_neg c44] at H
               have c44b0 : ((t361.length : Int) == (wrap64 ((wrap64 (((rd_T27 t347 0).f0) + ((rd_T27 t347 0).f1))) + 1))) = false := beq_eq_false_iff_ne.mpr c44
               have c44b1 : ((t361.length : Int) != (wrap64 ((wrap64 (((rd_T27 t347 0).f0) + ((rd_T27 t347 0).f1))) + 1))) = true := bne_iff_ne.mpr c44
               have H' := Aside0.mk H
               clear H
               obtain ⟨Ao49, co49, eo49⟩ := Kd.R_slice HO363.out
               subst eo49
               have p365 : 0 ≤ (0 : Int) := (by omega)
               have q365 : 0 < (t347.length : Int) := of_decide_eq_true (by first | (with_reducible assumption) | assumption)
               obtain ⟨ad365, e365, hx365_0, hx365_1, hx365_2⟩ := at_T27 (Kd.R_reads' HO_5.out).2.2 0 p365 q365
               obtain rfl : ad360 = ad365 := (by injection e365)
               have qi365 : (0 < t347.length) = True := eq_true (by omega)
               (try rw [show ((0 : Int)).toNat = 0 from rfl] at hx365_0)
               (try rw [show 0 * 3 = 0 from rfl] at hx365_0)
               (try rw [Addr.add_zero'] at hx365_0)
               (try rw [show ((0 : Int)).toNat = 0 from rfl] at hx365_1)
               (try rw [show 0 * 3 = 0 from rfl] at hx365_1)
               (try rw [Addr.add_zero'] at hx365_1)
               (try rw [show ((0 : Int)).toNat = 0 from rfl] at hx365_2)
               (try rw [show 0 * 3 = 0 from rfl] at hx365_2)
               (try rw [Addr.add_zero'] at hx365_2)
               replace p365 := eq_true p365
               replace q365 := eq_true q365
               have p366 : 0 ≤ (0 : Int) := (by omega)
               have q366 : 0 < (t347.length : Int) := of_decide_eq_true (by first | (with_reducible assumption) | assumption)
               obtain ⟨ad366, e366, hx366_0, hx366_1, hx366_2⟩ := at_T27 (Kd.R_reads' HO_5.out).2.2 0 p366 q366
               obtain rfl : ad360 = ad366 := (by injection e366)
               have qi366 : (0 < t347.length) = True := eq_true (by omega)
               (try rw [show ((0 : Int)).toNat = 0 from rfl] at hx366_0)
               (try rw [show 0 * 3 = 0 from rfl] at hx366_0)
               (try rw [Addr.add_zero'] at hx366_0)
               (try rw [show ((0 : Int)).toNat = 0 from rfl] at hx366_1)
               (try rw [show 0 * 3 = 0 from rfl] at hx366_1)
               (try rw [Addr.add_zero'] at hx366_1)
               (try rw [show ((0 : Int)).toNat = 0 from rfl] at hx366_2)
               (try rw [show 0 * 3 = 0 from rfl] at hx366_2)
               (try rw [Addr.add_zero'] at hx366_2)
               replace p366 := eq_true p366
               replace q366 := eq_true q366
               go_wp2
               first | go_meet | (repeat (go_quiet (fail); try go_wp2); go_meet)
               case rel => exact ⟨_, (true), (by first | rfl | (simp; done) | (simp [*]; done)), H', ⟨by have := HJ9.out; have := HJ20.out; have := HJ28.out; have := HJ30.out; first | omega | exact Nat.le_refl _⟩, ⟨by (with_reducible repeat (first | apply Kd.R_alloc | apply Kd.R_drewN | apply Kd.R_drew)); exact HO363.out⟩, ⟨by repeat (first | (with_reducible first | exact HB.out | apply below_alloc | apply pw_below_drewN | apply below_drew1) | exact HB.out)⟩⟩
             ·rw [if_neg c43] at H
              have c43b0 : (t364 == 0) = false := beq_eq_false_iff_ne.mpr c43
              have c43b1 : (t364 != 0) = true := bne_iff_ne.mpr c43
              (first | rw [c43b0] | (simp only [i64_w, i32_w]; rw [c43b0]) | skip)
              have H' := Aside0.mk H
              clear H
              go_wp2
              first | go_meet | (repeat (go_quiet (fail); try go_wp2); go_meet)
              case rel => exact ⟨_, (true), (by first | rfl | (simp; done) | (simp [*]; done)), H', ⟨by have := HJ9.out; have := HJ20.out; have := HJ28.out; have := HJ30.out; first | omega | exact Nat.le_refl _⟩, ⟨by (with_reducible repeat (first | apply Kd.R_alloc | apply Kd.R_drewN | apply Kd.R_drew)); exact HO363.out⟩, ⟨by repeat (first | (with_reducible first | exact HB.out | apply below_alloc | apply pw_below_drewN | apply below_drew1) | exact HB.out)⟩⟩
            case rest => as_aux_lemma =>
             clear HC41
             try clear c1
             try clear c2
             try clear p2
             try clear c3
             try clear p3
             try clear q3
             try clear hx3
             try clear qi3
             try clear c4
             try clear p6
             try clear c12
             try clear c15
             try clear c15b0
             try clear c15b1
             try clear c16
             try clear c16b0
             try clear c17
             try clear c17b0
             try clear c18
             try clear c18b0
             try clear c18b1
             try clear c19
             try clear c19b0
             try clear c20
             try clear c22
             try clear c22b0
             try clear c24
             try clear c24b0
             try clear c24b1
             try clear c25
             try clear c25b0
             try clear c30
             try clear c30b0
             try clear c32
             try clear c34
             try clear c34b0
             try clear c34b1
             try clear c35
             try clear c35b0
             try clear p36
             try clear q36
             try clear hx36
             try clear qi36
             try clear c39
             try clear c39b0
             try clear c39b1
             try clear c43
             try clear c43b0
             try clear c43b1
             try clear c44
             try clear c44b0
             try clear c44b1
             try clear c45
             try clear c45b0
             try clear c45b1
             try clear c46
             try clear c46b0
             try clear c46b1
             try clear hx360_0
             try clear hx360_1
             try clear hx360_2
             try clear hx365_0
             try clear hx365_1
             try clear hx365_2
             try clear hx366_0
             try clear hx366_1
             try clear hx366_2
             try clear hx367_0
             try clear hx367_1
             try clear hx368_0
             try clear hx368_1
             try clear p2
             try clear p360
             try clear p365
             try clear p366
             try clear p367
             try clear p368
             try clear p6
             try clear q360
             try clear q365
             try clear q366
             try clear q367
             try clear q368
             obtain ⟨kq, x153_40, rfl, HA, HJ40, HO_16, HB⟩ := hcut
             cases kq with
             | zero => exact absurd HA.out (by simp [laws_FnForces.j4])
             | succ kj40 =>
              have H := HA.out
              clear HA
              simp only [laws_FnForces.j4] at H
              by_cases c50 : x153_40 = true
              ·subst c50
               have H1 : (some false) = some r := by rw [if_pos rfl] at H; exact H
               clear H
               have H := H1
               clear H1
               obtain rfl := Option.some.inj H
               go_wp2
               first | go_ret | (repeat (go_quiet (fail); try go_wp2); go_ret)
               exact ⟨by first | rfl | (simp [errW_none, errW_some] <;> rfl) | (simp [*, errW_none, errW_some] <;> rfl), by repeat (first | (with_reducible first | exact HB.out | apply below_alloc | apply pw_below_drewN | apply below_drew1) | exact HB.out)⟩
              ·replace c50 := Bool.eq_false_iff.mpr c50
               subst c50
               have H1 : (laws_FnForces.l0 kj40 t350 (wrap64 (1 + (wrap64 (t351 * 100)))) t361 1) = some r := by rw [if_neg (show ¬ (false = true) by decide)] at H; exact H
               clear H
               have H := H1
               clear H1
               have H' := Aside0.mk H
               clear H
               go_wp2
               repeat (go_quiet (fail); try go_wp2)
               go_loopg [18] kj40 (fun kq v18 w' => ∃ (x18_6 : Int), v18 = .int .i64 x18_6 ∧ Aside0 (laws_FnForces.l0 kq t350 (wrap64 (1 + (wrap64 (t351 * 100)))) t361 x18_6 = some r) ∧ Aside0 (kq ≤ kj40) ∧ Aside0 (Kd.R k35 35 w' w.heap.size (fun _ => True) v362 t361) ∧ Aside0 (Below w.heap.size w w'))
               case atStart => exact ⟨(1), (by first | rfl | (simp; done) | (simp [*]; done)), H', ⟨Nat.le_refl _⟩, ⟨by (with_reducible repeat (first | apply Kd.R_alloc | apply Kd.R_drewN | apply Kd.R_drew)); exact HO_16.out⟩, ⟨by repeat (first | (with_reducible first | exact HB.out | apply below_alloc | apply pw_below_drewN | apply below_drew1) | exact HB.out)⟩⟩
               case round =>
                clear H'
                try clear c1
                try clear c2
                try clear p2
                try clear c3
                try clear p3
                try clear q3
                try clear hx3
                try clear qi3
                try clear c4
                try clear c5
                try clear p6
                try clear c12
                try clear c15
                try clear c15b0
                try clear c15b1
                try clear c16
                try clear c16b0
                try clear c17
                try clear c17b0
                try clear c18
                try clear c18b0
                try clear c18b1
                try clear c19
                try clear c19b0
                try clear c20
                try clear c22
                try clear c22b0
                try clear c24
                try clear c24b0
                try clear c24b1
                try clear c25
                try clear c25b0
                try clear c30
                try clear c30b0
                try clear c32
                try clear c34
                try clear c34b0
                try clear c34b1
                try clear c35
                try clear c35b0
                try clear p36
                try clear q36
                try clear hx36
                try clear qi36
                try clear c39
                try clear c39b0
                try clear c39b1
                try clear c43
                try clear c43b0
                try clear c43b1
                try clear c44
                try clear c44b0
                try clear c44b1
                try clear c45
                try clear c45b0
                try clear c45b1
                try clear c46
                try clear c46b0
                try clear c46b1
                try clear c50
                try clear hx360_0
                try clear hx360_1
                try clear hx360_2
                try clear hx365_0
                try clear hx365_1
                try clear hx365_2
                try clear hx366_0
                try clear hx366_1
                try clear hx366_2
                try clear hx367_0
                try clear hx367_1
                try clear hx368_0
                try clear hx368_1
                try clear p2
                try clear p3
                try clear p36
                try clear p360
                try clear p365
                try clear p366
                try clear p367
                try clear p368
                try clear p6
                try clear q3
                try clear q36
                try clear q360
                try clear q365
                try clear q366
                try clear q367
                try clear q368
                obtain ⟨x18_6, rfl, HA, HK6, HO_16, HB⟩ := hrel
                cases gk with
                | zero => exact absurd HA.out (by simp [laws_FnForces.l0])
                | succ k6 =>
                 have H := HA.out
                 clear HA
                 simp only [laws_FnForces.l0] at H
                 by_cases c51 : x18_6 < (t361.length : Int)
                 ·rw [if_pos c51] at H
                  have c51b0 : decide (x18_6 < (t361.length : Int)) = true := decide_eq_true c51
                  clear c51
                  by_cases c52 : 0 ≤ x18_6
                  ·rw [if_pos c52] at H
                   have c52b0 : decide (0 ≤ x18_6) = true := decide_eq_true c52
                   clear c52
                   by_cases c53 : ((rd_T35 t361 x18_6).f1) < 1
                   ·rw [if_pos c53] at H
                    have c53b0 : decide (((rd_T35 t361 x18_6).f1) < 1) = true := decide_eq_true c53
                    clear c53
                    obtain rfl := Option.some.inj H
                    obtain ⟨Ao54, co54, eo54⟩ := Kd.R_slice HO_16.out
                    subst eo54
                    have p369 : 0 ≤ (x18_6 : Int) := of_decide_eq_true (by first | (with_reducible assumption) | assumption)
                    have q369 : x18_6 < (t361.length : Int) := of_decide_eq_true (by first | (with_reducible assumption) | assumption)
                    obtain ⟨ad369, e369, hx369_0, hx369_1⟩ := at_T35 (Kd.R_reads' HO_16.out).2.2 x18_6 p369 q369
                    cases e369
                    replace p369 := eq_true p369
                    replace q369 := eq_true q369
                    go_wp2
                    first | go_ret | (repeat (go_quiet (fail); try go_wp2); go_ret)
                    exact ⟨by first | rfl | (simp [errW_none, errW_some] <;> rfl) | (simp [*, errW_none, errW_some] <;> rfl), by repeat (first | (with_reducible first | exact HB.out | apply below_alloc | apply pw_below_drewN | apply below_drew1) | exact HB.out)⟩
                   ·rw [if_neg c53] at H
                    have c53b0 : decide (((rd_T35 t361 x18_6).f1) < 1) = false := decide_eq_false c53
                    clear c53
                    by_cases c55 : ((rd_T35 t361 x18_6).f0) < 1
                    ·rw [if_pos c55] at H
                     have c55b0 : decide (((rd_T35 t361 x18_6).f0) < 1) = true := decide_eq_true c55
                     clear c55
                     obtain rfl := Option.some.inj H
                     obtain ⟨Ao56, co56, eo56⟩ := Kd.R_slice HO_16.out
                     subst eo56
                     have p369 : 0 ≤ (x18_6 : Int) := of_decide_eq_true (by first | (with_reducible assumption) | assumption)
                     have q369 : x18_6 < (t361.length : Int) := of_decide_eq_true (by first | (with_reducible assumption) | assumption)
                     obtain ⟨ad369, e369, hx369_0, hx369_1⟩ := at_T35 (Kd.R_reads' HO_16.out).2.2 x18_6 p369 q369
                     cases e369
                     replace p369 := eq_true p369
                     replace q369 := eq_true q369
                     have p370 : 0 ≤ (x18_6 : Int) := of_decide_eq_true (by first | (with_reducible assumption) | assumption)
                     have q370 : x18_6 < (t361.length : Int) := of_decide_eq_true (by first | (with_reducible assumption) | assumption)
                     obtain ⟨ad370, e370, hx370_0, hx370_1⟩ := at_T35 (Kd.R_reads' HO_16.out).2.2 x18_6 p370 q370
                     obtain rfl : ad369 = ad370 := (by injection e370)
                     replace p370 := eq_true p370
                     replace q370 := eq_true q370
                     go_wp2
                     first | go_ret | (repeat (go_quiet (fail); try go_wp2); go_ret)
                     exact ⟨by first | rfl | (simp [errW_none, errW_some] <;> rfl) | (simp [*, errW_none, errW_some] <;> rfl), by repeat (first | (with_reducible first | exact HB.out | apply below_alloc | apply pw_below_drewN | apply below_drew1) | exact HB.out)⟩
                    ·rw [if_neg c55] at H
                     have c55b0 : decide (((rd_T35 t361 x18_6).f0) < 1) = false := decide_eq_false c55
                     clear c55
                     by_cases c57 : ((rd_T35 t361 x18_6).f0) > (wrap64 ((wrap64 (1 + (wrap64 (t351 * 100)))) * ((rd_T35 t361 x18_6).f1)))
                     ·rw [if_pos c57] at H
                      have c57b0 : decide ((wrap64 ((wrap64 (1 + (wrap64 (t351 * 100)))) * ((rd_T35 t361 x18_6).f1))) < ((rd_T35 t361 x18_6).f0)) = true := decide_eq_true c57
                      clear c57
                      obtain rfl := Option.some.inj H
                      obtain ⟨Ao58, co58, eo58⟩ := Kd.R_slice HO_16.out
                      subst eo58
                      have p369 : 0 ≤ (x18_6 : Int) := of_decide_eq_true (by first | (with_reducible assumption) | assumption)
                      have q369 : x18_6 < (t361.length : Int) := of_decide_eq_true (by first | (with_reducible assumption) | assumption)
                      obtain ⟨ad369, e369, hx369_0, hx369_1⟩ := at_T35 (Kd.R_reads' HO_16.out).2.2 x18_6 p369 q369
                      cases e369
                      replace p369 := eq_true p369
                      replace q369 := eq_true q369
                      have p370 : 0 ≤ (x18_6 : Int) := of_decide_eq_true (by first | (with_reducible assumption) | assumption)
                      have q370 : x18_6 < (t361.length : Int) := of_decide_eq_true (by first | (with_reducible assumption) | assumption)
                      obtain ⟨ad370, e370, hx370_0, hx370_1⟩ := at_T35 (Kd.R_reads' HO_16.out).2.2 x18_6 p370 q370
                      obtain rfl : ad369 = ad370 := (by injection e370)
                      replace p370 := eq_true p370
                      replace q370 := eq_true q370
                      have p371 : 0 ≤ (x18_6 : Int) := of_decide_eq_true (by first | (with_reducible assumption) | assumption)
                      have q371 : x18_6 < (t361.length : Int) := of_decide_eq_true (by first | (with_reducible assumption) | assumption)
                      obtain ⟨ad371, e371, hx371_0, hx371_1⟩ := at_T35 (Kd.R_reads' HO_16.out).2.2 x18_6 p371 q371
                      obtain rfl : ad369 = ad371 := (by injection e371)
                      replace p371 := eq_true p371
                      replace q371 := eq_true q371
                      have p372 : 0 ≤ (x18_6 : Int) := of_decide_eq_true (by first | (with_reducible assumption) | assumption)
                      have q372 : x18_6 < (t361.length : Int) := of_decide_eq_true (by first | (with_reducible assumption) | assumption)
                      obtain ⟨ad372, e372, hx372_0, hx372_1⟩ := at_T35 (Kd.R_reads' HO_16.out).2.2 x18_6 p372 q372
                      obtain rfl : ad369 = ad372 := (by injection e372)
                      replace p372 := eq_true p372
                      replace q372 := eq_true q372
                      go_wp2
                      first | go_ret | (repeat (go_quiet (fail); try go_wp2); go_ret)
                      exact ⟨by first | rfl | (simp [errW_none, errW_some] <;> rfl) | (simp [*, errW_none, errW_some] <;> rfl), by repeat (first | (with_reducible first | exact HB.out | apply below_alloc | apply pw_below_drewN | apply below_drew1) | exact HB.out)⟩
                     ·rw [if_neg c57] at H
                      have c57b0 : decide ((wrap64 ((wrap64 (1 + (wrap64 (t351 * 100)))) * ((rd_T35 t361 x18_6).f1))) < ((rd_T35 t361 x18_6).f0)) = false := decide_eq_false c57
                      clear c57
                      have H' := Aside0.mk H
                      clear H
                      obtain ⟨Ao59, co59, eo59⟩ := Kd.R_slice HO_16.out
                      subst eo59
                      have p369 : 0 ≤ (x18_6 : Int) := of_decide_eq_true (by first | (with_reducible assumption) | assumption)
                      have q369 : x18_6 < (t361.length : Int) := of_decide_eq_true (by first | (with_reducible assumption) | assumption)
                      obtain ⟨ad369, e369, hx369_0, hx369_1⟩ := at_T35 (Kd.R_reads' HO_16.out).2.2 x18_6 p369 q369
                      cases e369
                      replace p369 := eq_true p369
                      replace q369 := eq_true q369
                      have p370 : 0 ≤ (x18_6 : Int) := of_decide_eq_true (by first | (with_reducible assumption) | assumption)
                      have q370 : x18_6 < (t361.length : Int) := of_decide_eq_true (by first | (with_reducible assumption) | assumption)
                      obtain ⟨ad370, e370, hx370_0, hx370_1⟩ := at_T35 (Kd.R_reads' HO_16.out).2.2 x18_6 p370 q370
                      obtain rfl : ad369 = ad370 := (by injection e370)
                      replace p370 := eq_true p370
                      replace q370 := eq_true q370
                      have p371 : 0 ≤ (x18_6 : Int) := of_decide_eq_true (by first | (with_reducible assumption) | assumption)
                      have q371 : x18_6 < (t361.length : Int) := of_decide_eq_true (by first | (with_reducible assumption) | assumption)
                      obtain ⟨ad371, e371, hx371_0, hx371_1⟩ := at_T35 (Kd.R_reads' HO_16.out).2.2 x18_6 p371 q371
                      obtain rfl : ad369 = ad371 := (by injection e371)
                      replace p371 := eq_true p371
                      replace q371 := eq_true q371
                      have p372 : 0 ≤ (x18_6 : Int) := of_decide_eq_true (by first | (with_reducible assumption) | assumption)
                      have q372 : x18_6 < (t361.length : Int) := of_decide_eq_true (by first | (with_reducible assumption) | assumption)
                      obtain ⟨ad372, e372, hx372_0, hx372_1⟩ := at_T35 (Kd.R_reads' HO_16.out).2.2 x18_6 p372 q372
                      obtain rfl : ad369 = ad372 := (by injection e372)
                      replace p372 := eq_true p372
                      replace q372 := eq_true q372
                      go_wp2
                      repeat (go_quiet (fail); try go_wp2)
                      go_roundg k6
                      case measure => have := HJ9.out; have := HJ20.out; have := HJ28.out; have := HJ30.out; have := HJ40.out; have := HK6.out; omega
                      case rel => exact ⟨(wrap64 (x18_6 + 1)), (by first | rfl | (simp; done) | (simp [*]; done)), H', ⟨by have := HJ9.out; have := HJ20.out; have := HJ28.out; have := HJ30.out; have := HJ40.out; have := HK6.out; omega⟩, ⟨by (with_reducible repeat (first | apply Kd.R_alloc | apply Kd.R_drewN | apply Kd.R_drew)); exact HO_16.out⟩, ⟨by repeat (first | (with_reducible first | exact HB.out | apply below_alloc | apply pw_below_drewN | apply below_drew1) | exact HB.out)⟩⟩
                  ·rw [if_neg c52] at H
                   exact absurd H (by simp)
                 ·rw [if_neg c51] at H
                  have c51b0 : decide (x18_6 < (t361.length : Int)) = false := decide_eq_false c51
                  clear c51
                  obtain ⟨ji60, hji60⟩ : ∃ j_ : Int, (mx 1 (wrap64 (Int.tdiv (wrap64 (1 + (wrap64 (t351 * 100)))) 3))) = j_ := ⟨_, rfl⟩
                  replace H : ((impl_PurchaseForForce.f k6 t350 (wrap64 (1 + (wrap64 (t351 * 100)))) (ji60)).bind fun bt373 => (if bt373.2.2.2 = 0 then ((spec_ValidPurchase.f k6 bt373.1 bt373.2.1 bt373.2.2.1).bind fun t378 => (if t378 = true then ((spec_RaiseForce.f k6 (([(⟨bt373.1, bt373.2.1, bt373.2.2.1⟩ : S27)] : List (S27))) t350 (wrap64 (1 + (wrap64 (t351 * 100))))).bind fun bt382 => (if bt382.2 = 0 then (laws_FnForces.j6 k6 t350 (wrap64 (1 + (wrap64 (t351 * 100)))) (decide (bt382.1 > (ji60))) bt373.1 bt373.2.1 bt373.2.2.1) else (laws_FnForces.j6 k6 t350 (wrap64 (1 + (wrap64 (t351 * 100)))) true bt373.1 bt373.2.1 bt373.2.2.1))) else (some false))) else (some (bt373.2.2.2 == 3)))) = some r := by first | (rw [hji60] at H; exact H) | (simp only [hji60] at H ⊢; exact H)
                  have hji60_ : (if 1 < (wrap64 (Int.tdiv (wrap64 (1 + (wrap64 (t351 * 100)))) 3)) then (wrap64 (Int.tdiv (wrap64 (1 + (wrap64 (t351 * 100)))) 3)) else 1) = ji60 := hji60
                  replace H := Option.bind_eq_some_iff.mp H
                  obtain ⟨⟨t373, t374, t375, t376⟩, A610, H⟩ := H
                  replace H : (if t376 = 0 then ((spec_ValidPurchase.f k6 t373 t374 t375).bind fun t378 => (if t378 = true then ((spec_RaiseForce.f k6 (([(⟨t373, t374, t375⟩ : S27)] : List (S27))) t350 (wrap64 (1 + (wrap64 (t351 * 100))))).bind fun bt382 => (if bt382.2 = 0 then (laws_FnForces.j6 k6 t350 (wrap64 (1 + (wrap64 (t351 * 100)))) (decide (bt382.1 > (ji60))) t373 t374 t375) else (laws_FnForces.j6 k6 t350 (wrap64 (1 + (wrap64 (t351 * 100)))) true t373 t374 t375))) else (some false))) else (some (t376 == 3))) = some r := H
                  have A61 := Aside0.mk A610
                  clear A610
                  by_cases c62 : t376 = 0
                  ·rw [if_pos c62] at H
                   have c62b0 : (t376 == 0) = true := beq_iff_eq.mpr c62
                   have c62b1 : (t376 != 0) = false := bne_eq_false_iff_eq.mpr c62
                   clear c62
                   replace H := Option.bind_eq_some_iff.mp H
                   obtain ⟨t378, A630, H⟩ := H
                   replace H : (if t378 = true then ((spec_RaiseForce.f k6 (([(⟨t373, t374, t375⟩ : S27)] : List (S27))) t350 (wrap64 (1 + (wrap64 (t351 * 100))))).bind fun bt382 => (if bt382.2 = 0 then (laws_FnForces.j6 k6 t350 (wrap64 (1 + (wrap64 (t351 * 100)))) (decide (bt382.1 > (ji60))) t373 t374 t375) else (laws_FnForces.j6 k6 t350 (wrap64 (1 + (wrap64 (t351 * 100)))) true t373 t374 t375))) else (some false)) = some r := H
                   have A63 := Aside0.mk A630
                   clear A630
                   by_cases c64 : t378 = true
                   ·subst c64
                    have H1 : ((spec_RaiseForce.f k6 (([(⟨t373, t374, t375⟩ : S27)] : List (S27))) t350 (wrap64 (1 + (wrap64 (t351 * 100))))).bind fun bt382 => (if bt382.2 = 0 then (laws_FnForces.j6 k6 t350 (wrap64 (1 + (wrap64 (t351 * 100)))) (decide (bt382.1 > (ji60))) t373 t374 t375) else (laws_FnForces.j6 k6 t350 (wrap64 (1 + (wrap64 (t351 * 100)))) true t373 t374 t375))) = some r := by rw [if_pos rfl] at H; exact H
                    clear H
                    have H := H1
                    clear H1
                    obtain ⟨y379, hy379⟩ : ∃ y_ : List (S27), y_ = (([(⟨t373, t374, t375⟩ : S27)] : List (S27))) := ⟨_, rfl⟩
                    replace H : ((spec_RaiseForce.f k6 y379 t350 (wrap64 (1 + (wrap64 (t351 * 100))))).bind fun bt382 => (if bt382.2 = 0 then (laws_FnForces.j6 k6 t350 (wrap64 (1 + (wrap64 (t351 * 100)))) (decide (bt382.1 > (ji60))) t373 t374 t375) else (laws_FnForces.j6 k6 t350 (wrap64 (1 + (wrap64 (t351 * 100)))) true t373 t374 t375))) = some r := by first | (rw [hy379]; with_reducible exact H) | (have H2_ := (Option.bind_some _ _).symm.trans H; rw [hy379]; with_reducible exact H2_) | (have H2_ := (Option.bind_some _ _).symm.trans H; with_reducible exact H2_) | with_reducible exact H | (rw [hy379]; exact H) | exact H
                    have Ny379 := Aside0.mk hy379
                    clear hy379
                    replace H := Option.bind_eq_some_iff.mp H
                    obtain ⟨⟨t382, t383⟩, A650, H⟩ := H
                    replace H : (if t383 = 0 then (laws_FnForces.j6 k6 t350 (wrap64 (1 + (wrap64 (t351 * 100)))) (decide (t382 > (ji60))) t373 t374 t375) else (laws_FnForces.j6 k6 t350 (wrap64 (1 + (wrap64 (t351 * 100)))) true t373 t374 t375)) = some r := H
                    have A65 := Aside0.mk A650
                    clear A650
                    have HC66 := Aside0.mk H
                    clear H
                    obtain ⟨Ao67, co67, eo67⟩ := Kd.R_slice HO_16.out
                    subst eo67
                    go_upto_region 32 with (first | (go_at_call 31; (with_reducible refine (impl_PurchaseForForce.calls k6 t350 (wrap64 (1 + (wrap64 (t351 * 100)))) ji60 t373 t374 t375 t376 _ A61.out).mono ?_); rintro e w68 ⟨rfl, hb⟩; have n0_ := Aside0.mk (Kd.R_below (by (with_reducible repeat (first | apply Kd.R_alloc | apply Kd.R_drewN | apply Kd.R_drew)); exact HO_16.out) hb); have n1_ := Aside0.mk (below_step (by repeat (first | (with_reducible first | exact HB.out | apply below_alloc | apply pw_below_drewN | apply below_drew1) | exact HB.out)) hb); clear HO_16; clear HB; have HO_16 := n0_; have HB := n1_; clear n0_ n1_; (try clear hb); (try clear hb2); (try clear hk); (try clear hi)) | ((with_reducible refine gate_dst (N := 19) rfl ?_); (try (refine gate_guard (by rfl) ?_; dsimp only)); refine box_event ?hg (N := 19) ?hd (cs := #[.int .i64 0, .int .i64 0, .bool false]) (t := 27) ?hr ?_; (case hd => rfl); (case hg => rfl); (case hr => first | (go_simp; done) | (go_simp; rfl)); intro gb377 hg w69 hbox hb; have n0_ := Aside0.mk (Kd.R_below (by (with_reducible repeat (first | apply Kd.R_alloc | apply Kd.R_drewN | apply Kd.R_drew)); exact HO_16.out) hb); have n1_ := Aside0.mk (below_step (by repeat (first | (with_reducible first | exact HB.out | apply below_alloc | apply pw_below_drewN | apply below_drew1) | exact HB.out)) hb); have n2_ := Aside0.mk (hbox); have n3_ := Aside0.mk ((by rw [hg]; exact (below_size (by repeat (first | (with_reducible first | exact HB.out | apply below_alloc | apply pw_below_drewN | apply below_drew1) | exact HB.out))) : w.heap.size ≤ gb377)); have n4_ := Aside0.mk ((by rw [hg]; exact (below_size (by repeat (first | (with_reducible first | exact HB.out | apply below_alloc | apply pw_below_drewN | apply below_drew1) | exact HB.out))) : w.heap.size ≤ gb377)); clear HO_16; clear HB; have HO_16 := n0_; have HB := n1_; have BK377 := n2_; have GW377 := n3_; have GE377 := n4_; clear n0_ n1_ n2_ n3_ n4_; clear hb hbox hg; have hcz70_0 : w69.cell? ⟨gb377, 0, none⟩ = some (.int .i64 0) := (blk_cell BK377.out 0).trans rfl; have hcz70_1 : w69.cell? ⟨gb377, 1, none⟩ = some (.int .i64 0) := (blk_cell BK377.out 1).trans rfl; have hcz70_2 : w69.cell? ⟨gb377, 2, none⟩ = some (.bool false) := (blk_cell BK377.out 2).trans rfl; have hfz70_0 := blk_frozen BK377.out 0; have hfz70_1 := blk_frozen BK377.out 1; have hfz70_2 := blk_frozen BK377.out 2) | (go_at_call 44; (with_reducible refine (spec_ValidPurchase.calls k6 t373 t374 t375 true _ A63.out).mono ?_); rintro e w71 ⟨rfl, hb⟩; have n0_ := Aside0.mk (Kd.R_below (by (with_reducible repeat (first | apply Kd.R_alloc | apply Kd.R_drewN | apply Kd.R_drew)); exact (Kd.R_mono (Kd.R_far (p := ⟨gb377, 2, none⟩) (Kd.R_far (p := ⟨gb377, 1, none⟩) (Kd.R_far (p := ⟨gb377, 0, none⟩) (Kd.R_types HO_16.out BK377.out (by decide)) (fun _ hk => hk.2) (.int .i64 t373)) (fun _ hk => hk.2) (.int .i64 t374)) (fun _ hk => hk.2) (.bool t375)) (fun _ h_ => h_.1))) hb); have n1_ := Aside0.mk (blk_below (g := gb377) (o := .cells #[.int .i64 t373, .int .i64 t374, .bool t375] 27 (0, 0)) (by (with_reducible repeat (first | refine blk_drewN ?_ _ | refine blk_drew ?_ | refine blk_alloc ?_ _)); refine blk_put (cs := #[.int .i64 t373, .int .i64 t374, .bool false]) ?_ 2 _ rfl; (with_reducible repeat (first | refine blk_drewN ?_ _ | refine blk_drew ?_ | refine blk_alloc ?_ _)); refine blk_put (cs := #[.int .i64 t373, .int .i64 0, .bool false]) ?_ 1 _ rfl; (with_reducible repeat (first | refine blk_drewN ?_ _ | refine blk_drew ?_ | refine blk_alloc ?_ _)); refine blk_put (cs := #[.int .i64 0, .int .i64 0, .bool false]) ?_ 0 _ rfl; (with_reducible repeat (first | refine blk_drewN ?_ _ | refine blk_drew ?_ | refine blk_alloc ?_ _)); exact BK377.out) hb); have n2_ := Aside0.mk (below_step (by repeat (first | (with_reducible first | exact HB.out | apply below_alloc | apply pw_below_drewN | apply below_drew1 | refine below_set ?_ GE377.out) | exact HB.out)) hb); clear HO_16; clear BK377; clear HB; have HO_16 := n0_; have BK377 := n1_; have HB := n2_; clear n0_ n1_ n2_; (try clear hb); (try clear hb2); (try clear hk); (try clear hi); have hcz72_0 : w71.cell? ⟨gb377, 0, none⟩ = some (.int .i64 t373) := (blk_cell BK377.out 0).trans rfl; have hcz72_1 : w71.cell? ⟨gb377, 1, none⟩ = some (.int .i64 t374) := (blk_cell BK377.out 1).trans rfl; have hcz72_2 : w71.cell? ⟨gb377, 2, none⟩ = some (.bool t375) := (blk_cell BK377.out 2).trans rfl; have hfz72_0 := blk_frozen BK377.out 0; have hfz72_1 := blk_frozen BK377.out 1; have hfz72_2 := blk_frozen BK377.out 2) | ((with_reducible refine gate_dst (N := 207) rfl ?_); (try (refine gate_guard (by rfl) ?_; dsimp only)); refine Kd.R_lit k27 _ 27 ?hg (N := 207) ?hd (xs := ([(⟨t373, t374, t375⟩ : S27)] : List (S27))) (inner := [.int .i64 t373, .int .i64 t374, .bool t375]) (ok := fun _ => True) (okp := fun _ => True) ?hr ?hp (fun _ hk => hk) trivial (Below.refl _ _) (Nat.le_refl _) (by simp) ?_; (case hd => rfl); (case hg => rfl); (case hr => first | (go_simp; done) | (go_simp; rfl)); (case hp => exact (Reps.c3 (show Kd.M k27 _ _ _ (⟨t373, t374, t375⟩ : S27) [.int .i64 t373, .int .i64 t374, .bool t375] from (k27_mkM _ _ _ (⟨t373, t374, t375⟩ : S27) )) (Reps.none _ _))); intro v380 w73 ho74 hb hg_ hnew_; clear hg_ hnew_; (first | rw [← Ny379.out] at ho74 | (simp only [Int.reduceToNat] at ho74; rw [← Ny379.out] at ho74)); have n0_ := Aside0.mk (Kd.R_below (by (with_reducible repeat (first | apply Kd.R_alloc | apply Kd.R_drewN | apply Kd.R_drew)); exact HO_16.out) hb); have n1_ := Aside0.mk (Kd.R_lower (Kd.R_newB ho74 (g := gb377) (o := .cells #[.int .i64 t373, .int .i64 t374, .bool t375] 27 (0, 0)) (by (with_reducible repeat (first | refine blk_drewN ?_ _ | refine blk_drew ?_ | refine blk_alloc ?_ _)); exact BK377.out)) (below_size (by repeat (first | (with_reducible first | exact HB.out | apply below_alloc | apply pw_below_drewN | apply below_drew1 | refine below_set ?_ GE377.out) | exact HB.out)))); have n2_ := Aside0.mk (blk_below (g := gb377) (o := .cells #[.int .i64 t373, .int .i64 t374, .bool t375] 27 (0, 0)) (by (with_reducible repeat (first | refine blk_drewN ?_ _ | refine blk_drew ?_ | refine blk_alloc ?_ _)); exact BK377.out) hb); have n3_ := Aside0.mk (below_step (by repeat (first | (with_reducible first | exact HB.out | apply below_alloc | apply pw_below_drewN | apply below_drew1 | refine below_set ?_ GE377.out) | exact HB.out)) hb); clear HO_16; clear BK377; clear HB; have HO_16 := n0_; have HO381 := n1_; have BK377 := n2_; have HB := n3_; clear n0_ n1_ n2_ n3_; clear hb ho74; obtain ⟨Ao75, co75, eo75⟩ := Kd.R_slice HO381.out; subst eo75) | (go_at_call 39; (with_reducible refine (spec_RaiseForce.calls k6 _ _ y379 t350 (wrap64 (1 + (wrap64 (t351 * 100)))) t382 t383 _ ?side1 ?side2 A65.out).mono ?_); (case side1 => repeat (first | exact (Kd.R_reads' HO381.out).2.2 | (with_reducible refine Kd.C_alloc ?_ _) | (with_reducible refine Kd.C_drewN ?_ _) | (with_reducible refine Kd.C_drew ?_))); (case side2 => exact (Kd.R_reads' HO381.out).2.1); rintro e w76 ⟨rfl, hb⟩; have n0_ := Aside0.mk (Kd.R_below (by (with_reducible repeat (first | apply Kd.R_alloc | apply Kd.R_drewN | apply Kd.R_drew)); exact HO_16.out) hb); have n1_ := Aside0.mk (Kd.R_below (by (with_reducible repeat (first | apply Kd.R_alloc | apply Kd.R_drewN | apply Kd.R_drew)); exact HO381.out) hb); have n2_ := Aside0.mk (blk_below (g := gb377) (o := .cells #[.int .i64 t373, .int .i64 t374, .bool t375] 27 (0, 0)) (by (with_reducible repeat (first | refine blk_drewN ?_ _ | refine blk_drew ?_ | refine blk_alloc ?_ _)); exact BK377.out) hb); have n3_ := Aside0.mk (below_step (by repeat (first | (with_reducible first | exact HB.out | apply below_alloc | apply pw_below_drewN | apply below_drew1 | refine below_set ?_ GE377.out) | exact HB.out)) hb); clear HO_16; clear HO381; clear BK377; clear HB; have HO_16 := n0_; have HO381 := n1_; have BK377 := n2_; have HB := n3_; clear n0_ n1_ n2_ n3_; (try clear hb); (try clear hb2); (try clear hk); (try clear hi)))
                    repeat (go_quiet (first | (go_at_call 31; (with_reducible refine (impl_PurchaseForForce.calls k6 t350 (wrap64 (1 + (wrap64 (t351 * 100)))) ji60 t373 t374 t375 t376 _ A61.out).mono ?_); rintro e w68 ⟨rfl, hb⟩; have n0_ := Aside0.mk (Kd.R_below (by (with_reducible repeat (first | apply Kd.R_alloc | apply Kd.R_drewN | apply Kd.R_drew)); exact HO_16.out) hb); have n1_ := Aside0.mk (below_step (by repeat (first | (with_reducible first | exact HB.out | apply below_alloc | apply pw_below_drewN | apply below_drew1) | exact HB.out)) hb); clear HO_16; clear HB; have HO_16 := n0_; have HB := n1_; clear n0_ n1_; (try clear hb); (try clear hb2); (try clear hk); (try clear hi)) | ((with_reducible refine gate_dst (N := 19) rfl ?_); (try (refine gate_guard (by rfl) ?_; dsimp only)); refine box_event ?hg (N := 19) ?hd (cs := #[.int .i64 0, .int .i64 0, .bool false]) (t := 27) ?hr ?_; (case hd => rfl); (case hg => rfl); (case hr => first | (go_simp; done) | (go_simp; rfl)); intro gb377 hg w69 hbox hb; have n0_ := Aside0.mk (Kd.R_below (by (with_reducible repeat (first | apply Kd.R_alloc | apply Kd.R_drewN | apply Kd.R_drew)); exact HO_16.out) hb); have n1_ := Aside0.mk (below_step (by repeat (first | (with_reducible first | exact HB.out | apply below_alloc | apply pw_below_drewN | apply below_drew1) | exact HB.out)) hb); have n2_ := Aside0.mk (hbox); have n3_ := Aside0.mk ((by rw [hg]; exact (below_size (by repeat (first | (with_reducible first | exact HB.out | apply below_alloc | apply pw_below_drewN | apply below_drew1) | exact HB.out))) : w.heap.size ≤ gb377)); have n4_ := Aside0.mk ((by rw [hg]; exact (below_size (by repeat (first | (with_reducible first | exact HB.out | apply below_alloc | apply pw_below_drewN | apply below_drew1) | exact HB.out))) : w.heap.size ≤ gb377)); clear HO_16; clear HB; have HO_16 := n0_; have HB := n1_; have BK377 := n2_; have GW377 := n3_; have GE377 := n4_; clear n0_ n1_ n2_ n3_ n4_; clear hb hbox hg; have hcz70_0 : w69.cell? ⟨gb377, 0, none⟩ = some (.int .i64 0) := (blk_cell BK377.out 0).trans rfl; have hcz70_1 : w69.cell? ⟨gb377, 1, none⟩ = some (.int .i64 0) := (blk_cell BK377.out 1).trans rfl; have hcz70_2 : w69.cell? ⟨gb377, 2, none⟩ = some (.bool false) := (blk_cell BK377.out 2).trans rfl; have hfz70_0 := blk_frozen BK377.out 0; have hfz70_1 := blk_frozen BK377.out 1; have hfz70_2 := blk_frozen BK377.out 2) | (go_at_call 44; (with_reducible refine (spec_ValidPurchase.calls k6 t373 t374 t375 true _ A63.out).mono ?_); rintro e w71 ⟨rfl, hb⟩; have n0_ := Aside0.mk (Kd.R_below (by (with_reducible repeat (first | apply Kd.R_alloc | apply Kd.R_drewN | apply Kd.R_drew)); exact (Kd.R_mono (Kd.R_far (p := ⟨gb377, 2, none⟩) (Kd.R_far (p := ⟨gb377, 1, none⟩) (Kd.R_far (p := ⟨gb377, 0, none⟩) (Kd.R_types HO_16.out BK377.out (by decide)) (fun _ hk => hk.2) (.int .i64 t373)) (fun _ hk => hk.2) (.int .i64 t374)) (fun _ hk => hk.2) (.bool t375)) (fun _ h_ => h_.1))) hb); have n1_ := Aside0.mk (blk_below (g := gb377) (o := .cells #[.int .i64 t373, .int .i64 t374, .bool t375] 27 (0, 0)) (by (with_reducible repeat (first | refine blk_drewN ?_ _ | refine blk_drew ?_ | refine blk_alloc ?_ _)); refine blk_put (cs := #[.int .i64 t373, .int .i64 t374, .bool false]) ?_ 2 _ rfl; (with_reducible repeat (first | refine blk_drewN ?_ _ | refine blk_drew ?_ | refine blk_alloc ?_ _)); refine blk_put (cs := #[.int .i64 t373, .int .i64 0, .bool false]) ?_ 1 _ rfl; (with_reducible repeat (first | refine blk_drewN ?_ _ | refine blk_drew ?_ | refine blk_alloc ?_ _)); refine blk_put (cs := #[.int .i64 0, .int .i64 0, .bool false]) ?_ 0 _ rfl; (with_reducible repeat (first | refine blk_drewN ?_ _ | refine blk_drew ?_ | refine blk_alloc ?_ _)); exact BK377.out) hb); have n2_ := Aside0.mk (below_step (by repeat (first | (with_reducible first | exact HB.out | apply below_alloc | apply pw_below_drewN | apply below_drew1 | refine below_set ?_ GE377.out) | exact HB.out)) hb); clear HO_16; clear BK377; clear HB; have HO_16 := n0_; have BK377 := n1_; have HB := n2_; clear n0_ n1_ n2_; (try clear hb); (try clear hb2); (try clear hk); (try clear hi); have hcz72_0 : w71.cell? ⟨gb377, 0, none⟩ = some (.int .i64 t373) := (blk_cell BK377.out 0).trans rfl; have hcz72_1 : w71.cell? ⟨gb377, 1, none⟩ = some (.int .i64 t374) := (blk_cell BK377.out 1).trans rfl; have hcz72_2 : w71.cell? ⟨gb377, 2, none⟩ = some (.bool t375) := (blk_cell BK377.out 2).trans rfl; have hfz72_0 := blk_frozen BK377.out 0; have hfz72_1 := blk_frozen BK377.out 1; have hfz72_2 := blk_frozen BK377.out 2) | ((with_reducible refine gate_dst (N := 207) rfl ?_); (try (refine gate_guard (by rfl) ?_; dsimp only)); refine Kd.R_lit k27 _ 27 ?hg (N := 207) ?hd (xs := ([(⟨t373, t374, t375⟩ : S27)] : List (S27))) (inner := [.int .i64 t373, .int .i64 t374, .bool t375]) (ok := fun _ => True) (okp := fun _ => True) ?hr ?hp (fun _ hk => hk) trivial (Below.refl _ _) (Nat.le_refl _) (by simp) ?_; (case hd => rfl); (case hg => rfl); (case hr => first | (go_simp; done) | (go_simp; rfl)); (case hp => exact (Reps.c3 (show Kd.M k27 _ _ _ (⟨t373, t374, t375⟩ : S27) [.int .i64 t373, .int .i64 t374, .bool t375] from (k27_mkM _ _ _ (⟨t373, t374, t375⟩ : S27) )) (Reps.none _ _))); intro v380 w73 ho74 hb hg_ hnew_; clear hg_ hnew_; (first | rw [← Ny379.out] at ho74 | (simp only [Int.reduceToNat] at ho74; rw [← Ny379.out] at ho74)); have n0_ := Aside0.mk (Kd.R_below (by (with_reducible repeat (first | apply Kd.R_alloc | apply Kd.R_drewN | apply Kd.R_drew)); exact HO_16.out) hb); have n1_ := Aside0.mk (Kd.R_lower (Kd.R_newB ho74 (g := gb377) (o := .cells #[.int .i64 t373, .int .i64 t374, .bool t375] 27 (0, 0)) (by (with_reducible repeat (first | refine blk_drewN ?_ _ | refine blk_drew ?_ | refine blk_alloc ?_ _)); exact BK377.out)) (below_size (by repeat (first | (with_reducible first | exact HB.out | apply below_alloc | apply pw_below_drewN | apply below_drew1 | refine below_set ?_ GE377.out) | exact HB.out)))); have n2_ := Aside0.mk (blk_below (g := gb377) (o := .cells #[.int .i64 t373, .int .i64 t374, .bool t375] 27 (0, 0)) (by (with_reducible repeat (first | refine blk_drewN ?_ _ | refine blk_drew ?_ | refine blk_alloc ?_ _)); exact BK377.out) hb); have n3_ := Aside0.mk (below_step (by repeat (first | (with_reducible first | exact HB.out | apply below_alloc | apply pw_below_drewN | apply below_drew1 | refine below_set ?_ GE377.out) | exact HB.out)) hb); clear HO_16; clear BK377; clear HB; have HO_16 := n0_; have HO381 := n1_; have BK377 := n2_; have HB := n3_; clear n0_ n1_ n2_ n3_; clear hb ho74; obtain ⟨Ao75, co75, eo75⟩ := Kd.R_slice HO381.out; subst eo75) | (go_at_call 39; (with_reducible refine (spec_RaiseForce.calls k6 _ _ y379 t350 (wrap64 (1 + (wrap64 (t351 * 100)))) t382 t383 _ ?side1 ?side2 A65.out).mono ?_); (case side1 => repeat (first | exact (Kd.R_reads' HO381.out).2.2 | (with_reducible refine Kd.C_alloc ?_ _) | (with_reducible refine Kd.C_drewN ?_ _) | (with_reducible refine Kd.C_drew ?_))); (case side2 => exact (Kd.R_reads' HO381.out).2.1); rintro e w76 ⟨rfl, hb⟩; have n0_ := Aside0.mk (Kd.R_below (by (with_reducible repeat (first | apply Kd.R_alloc | apply Kd.R_drewN | apply Kd.R_drew)); exact HO_16.out) hb); have n1_ := Aside0.mk (Kd.R_below (by (with_reducible repeat (first | apply Kd.R_alloc | apply Kd.R_drewN | apply Kd.R_drew)); exact HO381.out) hb); have n2_ := Aside0.mk (blk_below (g := gb377) (o := .cells #[.int .i64 t373, .int .i64 t374, .bool t375] 27 (0, 0)) (by (with_reducible repeat (first | refine blk_drewN ?_ _ | refine blk_drew ?_ | refine blk_alloc ?_ _)); exact BK377.out) hb); have n3_ := Aside0.mk (below_step (by repeat (first | (with_reducible first | exact HB.out | apply below_alloc | apply pw_below_drewN | apply below_drew1 | refine below_set ?_ GE377.out) | exact HB.out)) hb); clear HO_16; clear HO381; clear BK377; clear HB; have HO_16 := n0_; have HO381 := n1_; have BK377 := n2_; have HB := n3_; clear n0_ n1_ n2_ n3_; (try clear hb); (try clear hb2); (try clear hk); (try clear hi))); go_upto_region 32 with (first | (go_at_call 31; (with_reducible refine (impl_PurchaseForForce.calls k6 t350 (wrap64 (1 + (wrap64 (t351 * 100)))) ji60 t373 t374 t375 t376 _ A61.out).mono ?_); rintro e w68 ⟨rfl, hb⟩; have n0_ := Aside0.mk (Kd.R_below (by (with_reducible repeat (first | apply Kd.R_alloc | apply Kd.R_drewN | apply Kd.R_drew)); exact HO_16.out) hb); have n1_ := Aside0.mk (below_step (by repeat (first | (with_reducible first | exact HB.out | apply below_alloc | apply pw_below_drewN | apply below_drew1) | exact HB.out)) hb); clear HO_16; clear HB; have HO_16 := n0_; have HB := n1_; clear n0_ n1_; (try clear hb); (try clear hb2); (try clear hk); (try clear hi)) | ((with_reducible refine gate_dst (N := 19) rfl ?_); (try (refine gate_guard (by rfl) ?_; dsimp only)); refine box_event ?hg (N := 19) ?hd (cs := #[.int .i64 0, .int .i64 0, .bool false]) (t := 27) ?hr ?_; (case hd => rfl); (case hg => rfl); (case hr => first | (go_simp; done) | (go_simp; rfl)); intro gb377 hg w69 hbox hb; have n0_ := Aside0.mk (Kd.R_below (by (with_reducible repeat (first | apply Kd.R_alloc | apply Kd.R_drewN | apply Kd.R_drew)); exact HO_16.out) hb); have n1_ := Aside0.mk (below_step (by repeat (first | (with_reducible first | exact HB.out | apply below_alloc | apply pw_below_drewN | apply below_drew1) | exact HB.out)) hb); have n2_ := Aside0.mk (hbox); have n3_ := Aside0.mk ((by rw [hg]; exact (below_size (by repeat (first | (with_reducible first | exact HB.out | apply below_alloc | apply pw_below_drewN | apply below_drew1) | exact HB.out))) : w.heap.size ≤ gb377)); have n4_ := Aside0.mk ((by rw [hg]; exact (below_size (by repeat (first | (with_reducible first | exact HB.out | apply below_alloc | apply pw_below_drewN | apply below_drew1) | exact HB.out))) : w.heap.size ≤ gb377)); clear HO_16; clear HB; have HO_16 := n0_; have HB := n1_; have BK377 := n2_; have GW377 := n3_; have GE377 := n4_; clear n0_ n1_ n2_ n3_ n4_; clear hb hbox hg; have hcz70_0 : w69.cell? ⟨gb377, 0, none⟩ = some (.int .i64 0) := (blk_cell BK377.out 0).trans rfl; have hcz70_1 : w69.cell? ⟨gb377, 1, none⟩ = some (.int .i64 0) := (blk_cell BK377.out 1).trans rfl; have hcz70_2 : w69.cell? ⟨gb377, 2, none⟩ = some (.bool false) := (blk_cell BK377.out 2).trans rfl; have hfz70_0 := blk_frozen BK377.out 0; have hfz70_1 := blk_frozen BK377.out 1; have hfz70_2 := blk_frozen BK377.out 2) | (go_at_call 44; (with_reducible refine (spec_ValidPurchase.calls k6 t373 t374 t375 true _ A63.out).mono ?_); rintro e w71 ⟨rfl, hb⟩; have n0_ := Aside0.mk (Kd.R_below (by (with_reducible repeat (first | apply Kd.R_alloc | apply Kd.R_drewN | apply Kd.R_drew)); exact (Kd.R_mono (Kd.R_far (p := ⟨gb377, 2, none⟩) (Kd.R_far (p := ⟨gb377, 1, none⟩) (Kd.R_far (p := ⟨gb377, 0, none⟩) (Kd.R_types HO_16.out BK377.out (by decide)) (fun _ hk => hk.2) (.int .i64 t373)) (fun _ hk => hk.2) (.int .i64 t374)) (fun _ hk => hk.2) (.bool t375)) (fun _ h_ => h_.1))) hb); have n1_ := Aside0.mk (blk_below (g := gb377) (o := .cells #[.int .i64 t373, .int .i64 t374, .bool t375] 27 (0, 0)) (by (with_reducible repeat (first | refine blk_drewN ?_ _ | refine blk_drew ?_ | refine blk_alloc ?_ _)); refine blk_put (cs := #[.int .i64 t373, .int .i64 t374, .bool false]) ?_ 2 _ rfl; (with_reducible repeat (first | refine blk_drewN ?_ _ | refine blk_drew ?_ | refine blk_alloc ?_ _)); refine blk_put (cs := #[.int .i64 t373, .int .i64 0, .bool false]) ?_ 1 _ rfl; (with_reducible repeat (first | refine blk_drewN ?_ _ | refine blk_drew ?_ | refine blk_alloc ?_ _)); refine blk_put (cs := #[.int .i64 0, .int .i64 0, .bool false]) ?_ 0 _ rfl; (with_reducible repeat (first | refine blk_drewN ?_ _ | refine blk_drew ?_ | refine blk_alloc ?_ _)); exact BK377.out) hb); have n2_ := Aside0.mk (below_step (by repeat (first | (with_reducible first | exact HB.out | apply below_alloc | apply pw_below_drewN | apply below_drew1 | refine below_set ?_ GE377.out) | exact HB.out)) hb); clear HO_16; clear BK377; clear HB; have HO_16 := n0_; have BK377 := n1_; have HB := n2_; clear n0_ n1_ n2_; (try clear hb); (try clear hb2); (try clear hk); (try clear hi); have hcz72_0 : w71.cell? ⟨gb377, 0, none⟩ = some (.int .i64 t373) := (blk_cell BK377.out 0).trans rfl; have hcz72_1 : w71.cell? ⟨gb377, 1, none⟩ = some (.int .i64 t374) := (blk_cell BK377.out 1).trans rfl; have hcz72_2 : w71.cell? ⟨gb377, 2, none⟩ = some (.bool t375) := (blk_cell BK377.out 2).trans rfl; have hfz72_0 := blk_frozen BK377.out 0; have hfz72_1 := blk_frozen BK377.out 1; have hfz72_2 := blk_frozen BK377.out 2) | ((with_reducible refine gate_dst (N := 207) rfl ?_); (try (refine gate_guard (by rfl) ?_; dsimp only)); refine Kd.R_lit k27 _ 27 ?hg (N := 207) ?hd (xs := ([(⟨t373, t374, t375⟩ : S27)] : List (S27))) (inner := [.int .i64 t373, .int .i64 t374, .bool t375]) (ok := fun _ => True) (okp := fun _ => True) ?hr ?hp (fun _ hk => hk) trivial (Below.refl _ _) (Nat.le_refl _) (by simp) ?_; (case hd => rfl); (case hg => rfl); (case hr => first | (go_simp; done) | (go_simp; rfl)); (case hp => exact (Reps.c3 (show Kd.M k27 _ _ _ (⟨t373, t374, t375⟩ : S27) [.int .i64 t373, .int .i64 t374, .bool t375] from (k27_mkM _ _ _ (⟨t373, t374, t375⟩ : S27) )) (Reps.none _ _))); intro v380 w73 ho74 hb hg_ hnew_; clear hg_ hnew_; (first | rw [← Ny379.out] at ho74 | (simp only [Int.reduceToNat] at ho74; rw [← Ny379.out] at ho74)); have n0_ := Aside0.mk (Kd.R_below (by (with_reducible repeat (first | apply Kd.R_alloc | apply Kd.R_drewN | apply Kd.R_drew)); exact HO_16.out) hb); have n1_ := Aside0.mk (Kd.R_lower (Kd.R_newB ho74 (g := gb377) (o := .cells #[.int .i64 t373, .int .i64 t374, .bool t375] 27 (0, 0)) (by (with_reducible repeat (first | refine blk_drewN ?_ _ | refine blk_drew ?_ | refine blk_alloc ?_ _)); exact BK377.out)) (below_size (by repeat (first | (with_reducible first | exact HB.out | apply below_alloc | apply pw_below_drewN | apply below_drew1 | refine below_set ?_ GE377.out) | exact HB.out)))); have n2_ := Aside0.mk (blk_below (g := gb377) (o := .cells #[.int .i64 t373, .int .i64 t374, .bool t375] 27 (0, 0)) (by (with_reducible repeat (first | refine blk_drewN ?_ _ | refine blk_drew ?_ | refine blk_alloc ?_ _)); exact BK377.out) hb); have n3_ := Aside0.mk (below_step (by repeat (first | (with_reducible first | exact HB.out | apply below_alloc | apply pw_below_drewN | apply below_drew1 | refine below_set ?_ GE377.out) | exact HB.out)) hb); clear HO_16; clear BK377; clear HB; have HO_16 := n0_; have HO381 := n1_; have BK377 := n2_; have HB := n3_; clear n0_ n1_ n2_ n3_; clear hb ho74; obtain ⟨Ao75, co75, eo75⟩ := Kd.R_slice HO381.out; subst eo75) | (go_at_call 39; (with_reducible refine (spec_RaiseForce.calls k6 _ _ y379 t350 (wrap64 (1 + (wrap64 (t351 * 100)))) t382 t383 _ ?side1 ?side2 A65.out).mono ?_); (case side1 => repeat (first | exact (Kd.R_reads' HO381.out).2.2 | (with_reducible refine Kd.C_alloc ?_ _) | (with_reducible refine Kd.C_drewN ?_ _) | (with_reducible refine Kd.C_drew ?_))); (case side2 => exact (Kd.R_reads' HO381.out).2.1); rintro e w76 ⟨rfl, hb⟩; have n0_ := Aside0.mk (Kd.R_below (by (with_reducible repeat (first | apply Kd.R_alloc | apply Kd.R_drewN | apply Kd.R_drew)); exact HO_16.out) hb); have n1_ := Aside0.mk (Kd.R_below (by (with_reducible repeat (first | apply Kd.R_alloc | apply Kd.R_drewN | apply Kd.R_drew)); exact HO381.out) hb); have n2_ := Aside0.mk (blk_below (g := gb377) (o := .cells #[.int .i64 t373, .int .i64 t374, .bool t375] 27 (0, 0)) (by (with_reducible repeat (first | refine blk_drewN ?_ _ | refine blk_drew ?_ | refine blk_alloc ?_ _)); exact BK377.out) hb); have n3_ := Aside0.mk (below_step (by repeat (first | (with_reducible first | exact HB.out | apply below_alloc | apply pw_below_drewN | apply below_drew1 | refine below_set ?_ GE377.out) | exact HB.out)) hb); clear HO_16; clear HO381; clear BK377; clear HB; have HO_16 := n0_; have HO381 := n1_; have BK377 := n2_; have HB := n3_; clear n0_ n1_ n2_ n3_; (try clear hb); (try clear hb2); (try clear hk); (try clear hi))))
                    (try simp only [Act.put, List.setIfInBounds_toArray, List.set_cons_zero, List.set_cons_succ])
                    go_cut [221] (fun v221 wc => ∃ (kq : Nat) (x221_65 : Bool), v221 = .bool x221_65 ∧ Aside0 (laws_FnForces.j6 kq t350 (wrap64 (1 + (wrap64 (t351 * 100)))) x221_65 t373 t374 t375 = some r) ∧ Aside0 (kq ≤ k6) ∧ Aside0 (wc.heap[gb377]? = some (.cells #[.int .i64 t373, .int .i64 t374, .bool t375] 27 (0, 0))) ∧ Aside0 (Below w.heap.size w wc))
                    case first => as_aux_lemma =>
                     have H := HC66.out
                     clear HC66
                     by_cases c77 : t383 = 0
                     ·rw [if_pos c77] at H
                      have c77b0 : (t383 == 0) = true := beq_iff_eq.mpr c77
                      have c77b1 : (t383 != 0) = false := bne_eq_false_iff_eq.mpr c77
                      clear c77
                      (first | rw [c77b0] | (simp only [i64_w, i32_w]; rw [c77b0]) | skip)
                      have H' := Aside0.mk H
                      clear H
                      go_wp2
                      first | go_meet | (repeat (go_quiet (fail); try go_wp2); go_meet)
                      case rel => exact ⟨_, (decide (t382 > (ji60))), (by first | rfl | (simp; done) | (simp only [← hji60] <;> (first | rfl | simp)) | (simp [*]; done)), H', ⟨by have := HJ9.out; have := HJ20.out; have := HJ28.out; have := HJ30.out; have := HJ40.out; have := HK6.out; first | omega | exact Nat.le_refl _⟩, ⟨by (with_reducible repeat (first | refine blk_drewN ?_ _ | refine blk_drew ?_ | refine blk_alloc ?_ _)); exact BK377.out⟩, ⟨by repeat (first | (with_reducible first | exact HB.out | apply below_alloc | apply pw_below_drewN | apply below_drew1 | refine below_set ?_ GE377.out) | exact HB.out)⟩⟩
                     ·rw [if_neg c77] at H
                      have c77b0 : (t383 == 0) = false := beq_eq_false_iff_ne.mpr c77
                      have c77b1 : (t383 != 0) = true := bne_iff_ne.mpr c77
                      (first | rw [c77b0] | (simp only [i64_w, i32_w]; rw [c77b0]) | skip)
                      have H' := Aside0.mk H
                      clear H
                      go_wp2
                      first | go_meet | (repeat (go_quiet (fail); try go_wp2); go_meet)
                      case rel => exact ⟨_, (true), (by first | rfl | (simp; done) | (simp [*]; done)), H', ⟨by have := HJ9.out; have := HJ20.out; have := HJ28.out; have := HJ30.out; have := HJ40.out; have := HK6.out; first | omega | exact Nat.le_refl _⟩, ⟨by (with_reducible repeat (first | refine blk_drewN ?_ _ | refine blk_drew ?_ | refine blk_alloc ?_ _)); exact BK377.out⟩, ⟨by repeat (first | (with_reducible first | exact HB.out | apply below_alloc | apply pw_below_drewN | apply below_drew1 | refine below_set ?_ GE377.out) | exact HB.out)⟩⟩
                    case rest => as_aux_lemma =>
                     clear HC66
                     try clear c1
                     try clear c2
                     try clear p2
                     try clear c3
                     try clear p3
                     try clear q3
                     try clear hx3
                     try clear qi3
                     try clear c4
                     try clear c5
                     try clear c6
                     try clear p6
                     try clear c7
                     try clear c12
                     try clear c15
                     try clear c15b0
                     try clear c15b1
                     try clear c16
                     try clear c16b0
                     try clear c17
                     try clear c17b0
                     try clear c18
                     try clear c18b0
                     try clear c18b1
                     try clear c19
                     try clear c19b0
                     try clear c20
                     try clear c22
                     try clear c22b0
                     try clear c24
                     try clear c24b0
                     try clear c24b1
                     try clear c25
                     try clear c25b0
                     try clear c30
                     try clear c30b0
                     try clear c32
                     try clear c34
                     try clear c34b0
                     try clear c34b1
                     try clear c35
                     try clear c35b0
                     try clear p36
                     try clear q36
                     try clear hx36
                     try clear qi36
                     try clear p37
                     try clear q37
                     try clear hx37
                     try clear c39
                     try clear c39b0
                     try clear c39b1
                     try clear c43
                     try clear c43b0
                     try clear c43b1
                     try clear c44
                     try clear c44b0
                     try clear c44b1
                     try clear c45
                     try clear c45b0
                     try clear c45b1
                     try clear c46
                     try clear c46b0
                     try clear c46b1
                     try clear c50
                     try clear c51
                     try clear c51b0
                     try clear c52
                     try clear c52b0
                     try clear c53
                     try clear c53b0
                     try clear c55
                     try clear c55b0
                     try clear c57
                     try clear c57b0
                     try clear c62
                     try clear c62b0
                     try clear c62b1
                     try clear c64
                     try clear p64
                     try clear c77
                     try clear c77b0
                     try clear c77b1
                     try clear c78
                     try clear c78b0
                     try clear hcz70_0
                     try clear hcz70_1
                     try clear hcz70_2
                     try clear hcz72_0
                     try clear hcz72_1
                     try clear hcz72_2
                     try clear hfz70_0
                     try clear hfz70_1
                     try clear hfz70_2
                     try clear hfz72_0
                     try clear hfz72_1
                     try clear hfz72_2
                     try clear hx360_0
                     try clear hx360_1
                     try clear hx360_2
                     try clear hx365_0
                     try clear hx365_1
                     try clear hx365_2
                     try clear hx366_0
                     try clear hx366_1
                     try clear hx366_2
                     try clear hx367_0
                     try clear hx367_1
                     try clear hx368_0
                     try clear hx368_1
                     try clear hx369_0
                     try clear hx369_1
                     try clear hx370_0
                     try clear hx370_1
                     try clear hx371_0
                     try clear hx371_1
                     try clear hx372_0
                     try clear hx372_1
                     try clear p2
                     try clear p3
                     try clear p36
                     try clear p360
                     try clear p365
                     try clear p366
                     try clear p367
                     try clear p368
                     try clear p369
                     try clear p370
                     try clear p371
                     try clear p372
                     try clear p6
                     try clear q3
                     try clear q36
                     try clear q360
                     try clear q365
                     try clear q366
                     try clear q367
                     try clear q368
                     try clear q369
                     try clear q370
                     try clear q371
                     try clear q372
                     obtain ⟨kq, x221_65, rfl, HA, HJ65, BK377, HB⟩ := hcut
                     cases kq with
                     | zero => exact absurd HA.out (by simp [laws_FnForces.j6])
                     | succ kj65 =>
                      have H := HA.out
                      clear HA
                      simp only [laws_FnForces.j6] at H
                      by_cases c79 : x221_65 = true
                      ·subst c79
                       have H1 : (some false) = some r := by rw [if_pos rfl] at H; exact H
                       clear H
                       have H := H1
                       clear H1
                       obtain rfl := Option.some.inj H
                       go_wp2
                       first | go_ret | (repeat (go_quiet (fail); try go_wp2); go_ret)
                       exact ⟨by first | rfl | (simp [errW_none, errW_some] <;> rfl) | (simp only [← hji60]; first | rfl | (simp [errW_none, errW_some] <;> rfl)) | (simp [*, errW_none, errW_some] <;> rfl), by repeat (first | (with_reducible first | exact HB.out | apply below_alloc | apply pw_below_drewN | apply below_drew1 | refine below_set ?_ GE377.out) | exact HB.out)⟩
                      ·replace c79 := Bool.eq_false_iff.mpr c79
                       subst c79
                       have H1 : (laws_FnForces.l1 kj65 t350 (wrap64 (1 + (wrap64 (t351 * 100)))) 1 t373 t374 t375) = some r := by rw [if_neg (show ¬ (false = true) by decide)] at H; exact H
                       clear H
                       have H := H1
                       clear H1
                       have H' := Aside0.mk H
                       clear H
                       go_wp2
                       repeat (go_quiet (fail); try go_wp2)
                       go_loopg [23] kj65 (fun kq v23 w' => ∃ (x23_8 : Int), v23 = .int .i64 x23_8 ∧ Aside0 (laws_FnForces.l1 kq t350 (wrap64 (1 + (wrap64 (t351 * 100)))) x23_8 t373 t374 t375 = some r) ∧ Aside0 (kq ≤ kj65) ∧ Aside0 (w'.heap[gb377]? = some (.cells #[.int .i64 t373, .int .i64 t374, .bool t375] 27 (0, 0))) ∧ Aside0 (Below w.heap.size w w'))
                       case atStart => exact ⟨(1), (by first | rfl | (simp; done) | (simp [*]; done)), H', ⟨Nat.le_refl _⟩, ⟨by (with_reducible repeat (first | refine blk_drewN ?_ _ | refine blk_drew ?_ | refine blk_alloc ?_ _)); exact BK377.out⟩, ⟨by repeat (first | (with_reducible first | exact HB.out | apply below_alloc | apply pw_below_drewN | apply below_drew1 | refine below_set ?_ GE377.out) | exact HB.out)⟩⟩
                       case round =>
                        clear H'
                        try clear c1
                        try clear c2
                        try clear p2
                        try clear c3
                        try clear p3
                        try clear q3
                        try clear hx3
                        try clear qi3
                        try clear c4
                        try clear c5
                        try clear c6
                        try clear p6
                        try clear c7
                        try clear c12
                        try clear c15
                        try clear c15b0
                        try clear c15b1
                        try clear c16
                        try clear c16b0
                        try clear c17
                        try clear c17b0
                        try clear c18
                        try clear c18b0
                        try clear c18b1
                        try clear c19
                        try clear c19b0
                        try clear c20
                        try clear c22
                        try clear c22b0
                        try clear c24
                        try clear c24b0
                        try clear c24b1
                        try clear c25
                        try clear c25b0
                        try clear c30
                        try clear c30b0
                        try clear c32
                        try clear c34
                        try clear c34b0
                        try clear c34b1
                        try clear c35
                        try clear c35b0
                        try clear p36
                        try clear q36
                        try clear hx36
                        try clear qi36
                        try clear p37
                        try clear q37
                        try clear hx37
                        try clear c39
                        try clear c39b0
                        try clear c39b1
                        try clear c43
                        try clear c43b0
                        try clear c43b1
                        try clear c44
                        try clear c44b0
                        try clear c44b1
                        try clear c45
                        try clear c45b0
                        try clear c45b1
                        try clear c46
                        try clear c46b0
                        try clear c46b1
                        try clear c50
                        try clear c51
                        try clear c51b0
                        try clear c52
                        try clear c52b0
                        try clear c53
                        try clear c53b0
                        try clear c55
                        try clear c55b0
                        try clear c57
                        try clear c57b0
                        try clear c62
                        try clear c62b0
                        try clear c62b1
                        try clear c64
                        try clear p64
                        try clear c77
                        try clear c77b0
                        try clear c77b1
                        try clear c78
                        try clear c78b0
                        try clear c79
                        try clear hcz70_0
                        try clear hcz70_1
                        try clear hcz70_2
                        try clear hcz72_0
                        try clear hcz72_1
                        try clear hcz72_2
                        try clear hfz70_0
                        try clear hfz70_1
                        try clear hfz70_2
                        try clear hfz72_0
                        try clear hfz72_1
                        try clear hfz72_2
                        try clear hx360_0
                        try clear hx360_1
                        try clear hx360_2
                        try clear hx365_0
                        try clear hx365_1
                        try clear hx365_2
                        try clear hx366_0
                        try clear hx366_1
                        try clear hx366_2
                        try clear hx367_0
                        try clear hx367_1
                        try clear hx368_0
                        try clear hx368_1
                        try clear hx369_0
                        try clear hx369_1
                        try clear hx370_0
                        try clear hx370_1
                        try clear hx371_0
                        try clear hx371_1
                        try clear hx372_0
                        try clear hx372_1
                        try clear p2
                        try clear p3
                        try clear p36
                        try clear p360
                        try clear p365
                        try clear p366
                        try clear p367
                        try clear p368
                        try clear p369
                        try clear p37
                        try clear p370
                        try clear p371
                        try clear p372
                        try clear p6
                        try clear p64
                        try clear q3
                        try clear q36
                        try clear q360
                        try clear q365
                        try clear q366
                        try clear q367
                        try clear q368
                        try clear q369
                        try clear q37
                        try clear q370
                        try clear q371
                        try clear q372
                        obtain ⟨x23_8, rfl, HA, HK8, BK377, HB⟩ := hrel
                        cases gk with
                        | zero => exact absurd HA.out (by simp [laws_FnForces.l1])
                        | succ k8 =>
                         have H := HA.out
                         clear HA
                         simp only [laws_FnForces.l1] at H
                         by_cases c80 : x23_8 < (wrap64 (t373 + t374))
                         ·rw [if_pos c80] at H
                          have c80b0 : decide (x23_8 < (wrap64 (t373 + t374))) = true := decide_eq_true c80
                          clear c80
                          obtain ⟨y384, hy384⟩ : ∃ y_ : List (S27), y_ = (([(⟨wrap64 (Int.tdiv (wrap64 (x23_8 + 1)) 2), wrap64 (Int.tdiv x23_8 2), false⟩ : S27)] : List (S27))) := ⟨_, rfl⟩
                          replace H : ((spec_RaiseForce.f k8 y384 t350 (wrap64 (1 + (wrap64 (t351 * 100))))).bind fun bt387 => ((spec_RaiseForce.f k8 (([(⟨wrap64 (Int.tdiv x23_8 2), wrap64 (Int.tdiv (wrap64 (x23_8 + 1)) 2), true⟩ : S27)] : List (S27))) t350 (wrap64 (1 + (wrap64 (t351 * 100))))).bind fun bt392 => (if bt387.2 = 0 then (if bt392.2 = 0 then (if (mn bt387.1 bt392.1) ≤ (mx 1 (wrap64 (Int.tdiv (wrap64 (1 + (wrap64 (t351 * 100)))) 3))) then (some false) else (laws_FnForces.l1 k8 t350 (wrap64 (1 + (wrap64 (t351 * 100)))) (wrap64 (x23_8 + 1)) t373 t374 t375)) else (some false)) else (some false)))) = some r := by first | (rw [hy384]; with_reducible exact H) | (have H2_ := (Option.bind_some _ _).symm.trans H; rw [hy384]; with_reducible exact H2_) | (have H2_ := (Option.bind_some _ _).symm.trans H; with_reducible exact H2_) | with_reducible exact H | (rw [hy384]; exact H) | exact H
                          have Ny384 := Aside0.mk hy384
                          clear hy384
                          replace H := Option.bind_eq_some_iff.mp H
                          obtain ⟨⟨t387, t388⟩, A810, H⟩ := H
                          replace H : ((spec_RaiseForce.f k8 (([(⟨wrap64 (Int.tdiv x23_8 2), wrap64 (Int.tdiv (wrap64 (x23_8 + 1)) 2), true⟩ : S27)] : List (S27))) t350 (wrap64 (1 + (wrap64 (t351 * 100))))).bind fun bt392 => (if t388 = 0 then (if bt392.2 = 0 then (if (mn t387 bt392.1) ≤ (mx 1 (wrap64 (Int.tdiv (wrap64 (1 + (wrap64 (t351 * 100)))) 3))) then (some false) else (laws_FnForces.l1 k8 t350 (wrap64 (1 + (wrap64 (t351 * 100)))) (wrap64 (x23_8 + 1)) t373 t374 t375)) else (some false)) else (some false))) = some r := H
                          have A81 := Aside0.mk A810
                          clear A810
                          obtain ⟨y389, hy389⟩ : ∃ y_ : List (S27), y_ = (([(⟨wrap64 (Int.tdiv x23_8 2), wrap64 (Int.tdiv (wrap64 (x23_8 + 1)) 2), true⟩ : S27)] : List (S27))) := ⟨_, rfl⟩
                          replace H : ((spec_RaiseForce.f k8 y389 t350 (wrap64 (1 + (wrap64 (t351 * 100))))).bind fun bt392 => (if t388 = 0 then (if bt392.2 = 0 then (if (mn t387 bt392.1) ≤ (mx 1 (wrap64 (Int.tdiv (wrap64 (1 + (wrap64 (t351 * 100)))) 3))) then (some false) else (laws_FnForces.l1 k8 t350 (wrap64 (1 + (wrap64 (t351 * 100)))) (wrap64 (x23_8 + 1)) t373 t374 t375)) else (some false)) else (some false))) = some r := by first | (rw [hy389]; with_reducible exact H) | (have H2_ := (Option.bind_some _ _).symm.trans H; rw [hy389]; with_reducible exact H2_) | (have H2_ := (Option.bind_some _ _).symm.trans H; with_reducible exact H2_) | with_reducible exact H | (rw [hy389]; exact H) | exact H
                          have Ny389 := Aside0.mk hy389
                          clear hy389
                          replace H := Option.bind_eq_some_iff.mp H
                          obtain ⟨⟨t392, t393⟩, A820, H⟩ := H
                          replace H : (if t388 = 0 then (if t393 = 0 then (if (mn t387 t392) ≤ (mx 1 (wrap64 (Int.tdiv (wrap64 (1 + (wrap64 (t351 * 100)))) 3))) then (some false) else (laws_FnForces.l1 k8 t350 (wrap64 (1 + (wrap64 (t351 * 100)))) (wrap64 (x23_8 + 1)) t373 t374 t375)) else (some false)) else (some false)) = some r := H
                          have A82 := Aside0.mk A820
                          clear A820
                          by_cases c83 : t388 = 0
                          ·rw [if_pos c83] at H
                           have c83b0 : (t388 == 0) = true := beq_iff_eq.mpr c83
                           have c83b1 : (t388 != 0) = false := bne_eq_false_iff_eq.mpr c83
                           clear c83
                           by_cases c84 : t393 = 0
                           ·rw [if_pos c84] at H
                            have c84b0 : (t393 == 0) = true := beq_iff_eq.mpr c84
                            have c84b1 : (t393 != 0) = false := bne_eq_false_iff_eq.mpr c84
                            clear c84
                            obtain ⟨ji85, hji85⟩ : ∃ j_ : Int, (mn t387 t392) = j_ := ⟨_, rfl⟩
                            replace H : (if (ji85) ≤ (mx 1 (wrap64 (Int.tdiv (wrap64 (1 + (wrap64 (t351 * 100)))) 3))) then (some false) else (laws_FnForces.l1 k8 t350 (wrap64 (1 + (wrap64 (t351 * 100)))) (wrap64 (x23_8 + 1)) t373 t374 t375)) = some r := by first | (rw [hji85] at H; exact H) | (simp only [hji85] at H ⊢; exact H)
                            (try rw [hji85] at A81)
                            (try rw [hji85] at A82)
                            have hji85_ : (if t392 < t387 then t392 else t387) = ji85 := hji85
                            obtain ⟨ji86, hji86⟩ : ∃ j_ : Int, (mx 1 (wrap64 (Int.tdiv (wrap64 (1 + (wrap64 (t351 * 100)))) 3))) = j_ := ⟨_, rfl⟩
                            replace H : (if (ji85) ≤ (ji86) then (some false) else (laws_FnForces.l1 k8 t350 (wrap64 (1 + (wrap64 (t351 * 100)))) (wrap64 (x23_8 + 1)) t373 t374 t375)) = some r := by first | (rw [hji86] at H; exact H) | (simp only [hji86] at H ⊢; exact H)
                            (try rw [hji86] at A81)
                            (try rw [hji86] at A82)
                            have hji86_ : (if 1 < (wrap64 (Int.tdiv (wrap64 (1 + (wrap64 (t351 * 100)))) 3)) then (wrap64 (Int.tdiv (wrap64 (1 + (wrap64 (t351 * 100)))) 3)) else 1) = ji86 := hji86
                            clear hji60_
                            by_cases c87 : (ji85) ≤ (ji86)
                            ·rw [if_pos c87] at H
                             have c87b0 : decide ((ji85) ≤ (ji86)) = true := decide_eq_true c87
                             clear c87
                             obtain rfl := Option.some.inj H
                             have hcz88_0 : wr.cell? ⟨gb377, 0, none⟩ = some (.int .i64 t373) := (blk_cell BK377.out 0).trans rfl
                             have hcz88_1 : wr.cell? ⟨gb377, 1, none⟩ = some (.int .i64 t374) := (blk_cell BK377.out 1).trans rfl
                             have hcz88_2 : wr.cell? ⟨gb377, 2, none⟩ = some (.bool t375) := (blk_cell BK377.out 2).trans rfl
                             have hfz88_0 := blk_frozen BK377.out 0
                             have hfz88_1 := blk_frozen BK377.out 1
                             have hfz88_2 := blk_frozen BK377.out 2
                             go_wp2_with (first | ((with_reducible refine gate_dst (N := 238) rfl ?_); (try (refine gate_guard (by rfl) ?_; dsimp only)); refine Kd.R_lit k27 _ 27 ?hg (N := 238) ?hd (xs := ([(⟨wrap64 (Int.tdiv (wrap64 (x23_8 + 1)) 2), wrap64 (Int.tdiv x23_8 2), false⟩ : S27)] : List (S27))) (inner := [.int .i64 (wrap64 (Int.tdiv (wrap64 (x23_8 + 1)) 2)), .int .i64 (wrap64 (Int.tdiv x23_8 2)), .bool false]) (ok := fun _ => True) (okp := fun _ => True) ?hr ?hp (fun _ hk => hk) trivial (Below.refl _ _) (Nat.le_refl _) (by simp) ?_; (case hd => rfl); (case hg => rfl); (case hr => first | (go_simp; done) | (go_simp; rfl)); (case hp => exact (Reps.c3 (show Kd.M k27 _ _ _ (⟨wrap64 (Int.tdiv (wrap64 (x23_8 + 1)) 2), wrap64 (Int.tdiv x23_8 2), false⟩ : S27) [.int .i64 (wrap64 (Int.tdiv (wrap64 (x23_8 + 1)) 2)), .int .i64 (wrap64 (Int.tdiv x23_8 2)), .bool false] from (k27_mkM _ _ _ (⟨wrap64 (Int.tdiv (wrap64 (x23_8 + 1)) 2), wrap64 (Int.tdiv x23_8 2), false⟩ : S27) )) (Reps.none _ _))); intro v385 w89 ho90 hb hg_ hnew_; clear hg_ hnew_; (first | rw [← Ny384.out] at ho90 | (simp only [Int.reduceToNat] at ho90; rw [← Ny384.out] at ho90)); have n0_ := Aside0.mk (Kd.R_lower (Kd.R_newB ho90 (g := gb377) (o := .cells #[.int .i64 t373, .int .i64 t374, .bool t375] 27 (0, 0)) (by (with_reducible repeat (first | refine blk_drewN ?_ _ | refine blk_drew ?_ | refine blk_alloc ?_ _)); exact BK377.out)) (below_size (by repeat (first | (with_reducible first | exact HB.out | apply below_alloc | apply pw_below_drewN | apply below_drew1 | refine below_set ?_ GE377.out) | exact HB.out)))); have n1_ := Aside0.mk (blk_below (g := gb377) (o := .cells #[.int .i64 t373, .int .i64 t374, .bool t375] 27 (0, 0)) (by (with_reducible repeat (first | refine blk_drewN ?_ _ | refine blk_drew ?_ | refine blk_alloc ?_ _)); exact BK377.out) hb); have n2_ := Aside0.mk (below_step (by repeat (first | (with_reducible first | exact HB.out | apply below_alloc | apply pw_below_drewN | apply below_drew1 | refine below_set ?_ GE377.out) | exact HB.out)) hb); clear BK377; clear HB; have HO386 := n0_; have BK377 := n1_; have HB := n2_; clear n0_ n1_ n2_; clear hb ho90; obtain ⟨Ao91, co91, eo91⟩ := Kd.R_slice HO386.out; subst eo91) | (go_at_call 39; (with_reducible refine (spec_RaiseForce.calls k8 _ _ y384 t350 (wrap64 (1 + (wrap64 (t351 * 100)))) t387 t388 _ ?side1 ?side2 A81.out).mono ?_); (case side1 => repeat (first | exact (Kd.R_reads' HO386.out).2.2 | (with_reducible refine Kd.C_alloc ?_ _) | (with_reducible refine Kd.C_drewN ?_ _) | (with_reducible refine Kd.C_drew ?_))); (case side2 => exact (Kd.R_reads' HO386.out).2.1); rintro e w92 ⟨rfl, hb⟩; have n0_ := Aside0.mk (Kd.R_below (by (with_reducible repeat (first | apply Kd.R_alloc | apply Kd.R_drewN | apply Kd.R_drew)); exact HO386.out) hb); have n1_ := Aside0.mk (blk_below (g := gb377) (o := .cells #[.int .i64 t373, .int .i64 t374, .bool t375] 27 (0, 0)) (by (with_reducible repeat (first | refine blk_drewN ?_ _ | refine blk_drew ?_ | refine blk_alloc ?_ _)); exact BK377.out) hb); have n2_ := Aside0.mk (below_step (by repeat (first | (with_reducible first | exact HB.out | apply below_alloc | apply pw_below_drewN | apply below_drew1 | refine below_set ?_ GE377.out) | exact HB.out)) hb); clear HO386; clear BK377; clear HB; have HO386 := n0_; have BK377 := n1_; have HB := n2_; clear n0_ n1_ n2_; (try clear hb); (try clear hb2); (try clear hk); (try clear hi)) | ((with_reducible refine gate_dst (N := 251) rfl ?_); (try (refine gate_guard (by rfl) ?_; dsimp only)); refine Kd.R_lit k27 _ 27 ?hg (N := 251) ?hd (xs := ([(⟨wrap64 (Int.tdiv x23_8 2), wrap64 (Int.tdiv (wrap64 (x23_8 + 1)) 2), true⟩ : S27)] : List (S27))) (inner := [.int .i64 (wrap64 (Int.tdiv x23_8 2)), .int .i64 (wrap64 (Int.tdiv (wrap64 (x23_8 + 1)) 2)), .bool true]) (ok := fun _ => True) (okp := fun _ => True) ?hr ?hp (fun _ hk => hk) trivial (Below.refl _ _) (Nat.le_refl _) (by simp) ?_; (case hd => rfl); (case hg => rfl); (case hr => first | (go_simp; done) | (go_simp; rfl)); (case hp => exact (Reps.c3 (show Kd.M k27 _ _ _ (⟨wrap64 (Int.tdiv x23_8 2), wrap64 (Int.tdiv (wrap64 (x23_8 + 1)) 2), true⟩ : S27) [.int .i64 (wrap64 (Int.tdiv x23_8 2)), .int .i64 (wrap64 (Int.tdiv (wrap64 (x23_8 + 1)) 2)), .bool true] from (k27_mkM _ _ _ (⟨wrap64 (Int.tdiv x23_8 2), wrap64 (Int.tdiv (wrap64 (x23_8 + 1)) 2), true⟩ : S27) )) (Reps.none _ _))); intro v390 w93 ho94 hb hg_ hnew_; clear hg_ hnew_; (first | rw [← Ny389.out] at ho94 | (simp only [Int.reduceToNat] at ho94; rw [← Ny389.out] at ho94)); have n0_ := Aside0.mk (Kd.R_elder' (by (with_reducible repeat (first | apply Kd.R_alloc | apply Kd.R_drewN | apply Kd.R_drew)); exact HO386.out) (Kd.R_base ho94) hb); have n1_ := Aside0.mk (Kd.R_lower (Kd.R_newB (Kd.R_new' ho94 (Kd.R_lt (by (with_reducible repeat (first | apply Kd.R_alloc | apply Kd.R_drewN | apply Kd.R_drew)); exact HO386.out))) (g := gb377) (o := .cells #[.int .i64 t373, .int .i64 t374, .bool t375] 27 (0, 0)) (by (with_reducible repeat (first | refine blk_drewN ?_ _ | refine blk_drew ?_ | refine blk_alloc ?_ _)); exact BK377.out)) (below_size (by repeat (first | (with_reducible first | exact HB.out | apply below_alloc | apply pw_below_drewN | apply below_drew1 | refine below_set ?_ GE377.out) | exact HB.out)))); have n2_ := Aside0.mk (blk_below (g := gb377) (o := .cells #[.int .i64 t373, .int .i64 t374, .bool t375] 27 (0, 0)) (by (with_reducible repeat (first | refine blk_drewN ?_ _ | refine blk_drew ?_ | refine blk_alloc ?_ _)); exact BK377.out) hb); have n3_ := Aside0.mk (below_step (by repeat (first | (with_reducible first | exact HB.out | apply below_alloc | apply pw_below_drewN | apply below_drew1 | refine below_set ?_ GE377.out) | exact HB.out)) hb); clear HO386; clear BK377; clear HB; have HO386 := n0_; have HO391 := n1_; have BK377 := n2_; have HB := n3_; clear n0_ n1_ n2_ n3_; clear hb ho94; obtain ⟨Ao95, co95, eo95⟩ := Kd.R_slice HO391.out; subst eo95) | (go_at_call 39; (with_reducible refine (spec_RaiseForce.calls k8 _ _ y389 t350 (wrap64 (1 + (wrap64 (t351 * 100)))) t392 t393 _ ?side1 ?side2 A82.out).mono ?_); (case side1 => repeat (first | exact (Kd.R_reads' HO391.out).2.2 | (with_reducible refine Kd.C_alloc ?_ _) | (with_reducible refine Kd.C_drewN ?_ _) | (with_reducible refine Kd.C_drew ?_))); (case side2 => exact (Kd.R_reads' HO391.out).2.1); rintro e w96 ⟨rfl, hb⟩; have n0_ := Aside0.mk (Kd.R_below (by (with_reducible repeat (first | apply Kd.R_alloc | apply Kd.R_drewN | apply Kd.R_drew)); exact HO386.out) hb); have n1_ := Aside0.mk (Kd.R_below (by (with_reducible repeat (first | apply Kd.R_alloc | apply Kd.R_drewN | apply Kd.R_drew)); exact HO391.out) hb); have n2_ := Aside0.mk (blk_below (g := gb377) (o := .cells #[.int .i64 t373, .int .i64 t374, .bool t375] 27 (0, 0)) (by (with_reducible repeat (first | refine blk_drewN ?_ _ | refine blk_drew ?_ | refine blk_alloc ?_ _)); exact BK377.out) hb); have n3_ := Aside0.mk (below_step (by repeat (first | (with_reducible first | exact HB.out | apply below_alloc | apply pw_below_drewN | apply below_drew1 | refine below_set ?_ GE377.out) | exact HB.out)) hb); clear HO386; clear HO391; clear BK377; clear HB; have HO386 := n0_; have HO391 := n1_; have BK377 := n2_; have HB := n3_; clear n0_ n1_ n2_ n3_; (try clear hb); (try clear hb2); (try clear hk); (try clear hi)))
                             first | go_ret | (repeat (go_quiet (first | ((with_reducible refine gate_dst (N := 238) rfl ?_); (try (refine gate_guard (by rfl) ?_; dsimp only)); refine Kd.R_lit k27 _ 27 ?hg (N := 238) ?hd (xs := ([(⟨wrap64 (Int.tdiv (wrap64 (x23_8 + 1)) 2), wrap64 (Int.tdiv x23_8 2), false⟩ : S27)] : List (S27))) (inner := [.int .i64 (wrap64 (Int.tdiv (wrap64 (x23_8 + 1)) 2)), .int .i64 (wrap64 (Int.tdiv x23_8 2)), .bool false]) (ok := fun _ => True) (okp := fun _ => True) ?hr ?hp (fun _ hk => hk) trivial (Below.refl _ _) (Nat.le_refl _) (by simp) ?_; (case hd => rfl); (case hg => rfl); (case hr => first | (go_simp; done) | (go_simp; rfl)); (case hp => exact (Reps.c3 (show Kd.M k27 _ _ _ (⟨wrap64 (Int.tdiv (wrap64 (x23_8 + 1)) 2), wrap64 (Int.tdiv x23_8 2), false⟩ : S27) [.int .i64 (wrap64 (Int.tdiv (wrap64 (x23_8 + 1)) 2)), .int .i64 (wrap64 (Int.tdiv x23_8 2)), .bool false] from (k27_mkM _ _ _ (⟨wrap64 (Int.tdiv (wrap64 (x23_8 + 1)) 2), wrap64 (Int.tdiv x23_8 2), false⟩ : S27) )) (Reps.none _ _))); intro v385 w89 ho90 hb hg_ hnew_; clear hg_ hnew_; (first | rw [← Ny384.out] at ho90 | (simp only [Int.reduceToNat] at ho90; rw [← Ny384.out] at ho90)); have n0_ := Aside0.mk (Kd.R_lower (Kd.R_newB ho90 (g := gb377) (o := .cells #[.int .i64 t373, .int .i64 t374, .bool t375] 27 (0, 0)) (by (with_reducible repeat (first | refine blk_drewN ?_ _ | refine blk_drew ?_ | refine blk_alloc ?_ _)); exact BK377.out)) (below_size (by repeat (first | (with_reducible first | exact HB.out | apply below_alloc | apply pw_below_drewN | apply below_drew1 | refine below_set ?_ GE377.out) | exact HB.out)))); have n1_ := Aside0.mk (blk_below (g := gb377) (o := .cells #[.int .i64 t373, .int .i64 t374, .bool t375] 27 (0, 0)) (by (with_reducible repeat (first | refine blk_drewN ?_ _ | refine blk_drew ?_ | refine blk_alloc ?_ _)); exact BK377.out) hb); have n2_ := Aside0.mk (below_step (by repeat (first | (with_reducible first | exact HB.out | apply below_alloc | apply pw_below_drewN | apply below_drew1 | refine below_set ?_ GE377.out) | exact HB.out)) hb); clear BK377; clear HB; have HO386 := n0_; have BK377 := n1_; have HB := n2_; clear n0_ n1_ n2_; clear hb ho90; obtain ⟨Ao91, co91, eo91⟩ := Kd.R_slice HO386.out; subst eo91) | (go_at_call 39; (with_reducible refine (spec_RaiseForce.calls k8 _ _ y384 t350 (wrap64 (1 + (wrap64 (t351 * 100)))) t387 t388 _ ?side1 ?side2 A81.out).mono ?_); (case side1 => repeat (first | exact (Kd.R_reads' HO386.out).2.2 | (with_reducible refine Kd.C_alloc ?_ _) | (with_reducible refine Kd.C_drewN ?_ _) | (with_reducible refine Kd.C_drew ?_))); (case side2 => exact (Kd.R_reads' HO386.out).2.1); rintro e w92 ⟨rfl, hb⟩; have n0_ := Aside0.mk (Kd.R_below (by (with_reducible repeat (first | apply Kd.R_alloc | apply Kd.R_drewN | apply Kd.R_drew)); exact HO386.out) hb); have n1_ := Aside0.mk (blk_below (g := gb377) (o := .cells #[.int .i64 t373, .int .i64 t374, .bool t375] 27 (0, 0)) (by (with_reducible repeat (first | refine blk_drewN ?_ _ | refine blk_drew ?_ | refine blk_alloc ?_ _)); exact BK377.out) hb); have n2_ := Aside0.mk (below_step (by repeat (first | (with_reducible first | exact HB.out | apply below_alloc | apply pw_below_drewN | apply below_drew1 | refine below_set ?_ GE377.out) | exact HB.out)) hb); clear HO386; clear BK377; clear HB; have HO386 := n0_; have BK377 := n1_; have HB := n2_; clear n0_ n1_ n2_; (try clear hb); (try clear hb2); (try clear hk); (try clear hi)) | ((with_reducible refine gate_dst (N := 251) rfl ?_); (try (refine gate_guard (by rfl) ?_; dsimp only)); refine Kd.R_lit k27 _ 27 ?hg (N := 251) ?hd (xs := ([(⟨wrap64 (Int.tdiv x23_8 2), wrap64 (Int.tdiv (wrap64 (x23_8 + 1)) 2), true⟩ : S27)] : List (S27))) (inner := [.int .i64 (wrap64 (Int.tdiv x23_8 2)), .int .i64 (wrap64 (Int.tdiv (wrap64 (x23_8 + 1)) 2)), .bool true]) (ok := fun _ => True) (okp := fun _ => True) ?hr ?hp (fun _ hk => hk) trivial (Below.refl _ _) (Nat.le_refl _) (by simp) ?_; (case hd => rfl); (case hg => rfl); (case hr => first | (go_simp; done) | (go_simp; rfl)); (case hp => exact (Reps.c3 (show Kd.M k27 _ _ _ (⟨wrap64 (Int.tdiv x23_8 2), wrap64 (Int.tdiv (wrap64 (x23_8 + 1)) 2), true⟩ : S27) [.int .i64 (wrap64 (Int.tdiv x23_8 2)), .int .i64 (wrap64 (Int.tdiv (wrap64 (x23_8 + 1)) 2)), .bool true] from (k27_mkM _ _ _ (⟨wrap64 (Int.tdiv x23_8 2), wrap64 (Int.tdiv (wrap64 (x23_8 + 1)) 2), true⟩ : S27) )) (Reps.none _ _))); intro v390 w93 ho94 hb hg_ hnew_; clear hg_ hnew_; (first | rw [← Ny389.out] at ho94 | (simp only [Int.reduceToNat] at ho94; rw [← Ny389.out] at ho94)); have n0_ := Aside0.mk (Kd.R_elder' (by (with_reducible repeat (first | apply Kd.R_alloc | apply Kd.R_drewN | apply Kd.R_drew)); exact HO386.out) (Kd.R_base ho94) hb); have n1_ := Aside0.mk (Kd.R_lower (Kd.R_newB (Kd.R_new' ho94 (Kd.R_lt (by (with_reducible repeat (first | apply Kd.R_alloc | apply Kd.R_drewN | apply Kd.R_drew)); exact HO386.out))) (g := gb377) (o := .cells #[.int .i64 t373, .int .i64 t374, .bool t375] 27 (0, 0)) (by (with_reducible repeat (first | refine blk_drewN ?_ _ | refine blk_drew ?_ | refine blk_alloc ?_ _)); exact BK377.out)) (below_size (by repeat (first | (with_reducible first | exact HB.out | apply below_alloc | apply pw_below_drewN | apply below_drew1 | refine below_set ?_ GE377.out) | exact HB.out)))); have n2_ := Aside0.mk (blk_below (g := gb377) (o := .cells #[.int .i64 t373, .int .i64 t374, .bool t375] 27 (0, 0)) (by (with_reducible repeat (first | refine blk_drewN ?_ _ | refine blk_drew ?_ | refine blk_alloc ?_ _)); exact BK377.out) hb); have n3_ := Aside0.mk (below_step (by repeat (first | (with_reducible first | exact HB.out | apply below_alloc | apply pw_below_drewN | apply below_drew1 | refine below_set ?_ GE377.out) | exact HB.out)) hb); clear HO386; clear BK377; clear HB; have HO386 := n0_; have HO391 := n1_; have BK377 := n2_; have HB := n3_; clear n0_ n1_ n2_ n3_; clear hb ho94; obtain ⟨Ao95, co95, eo95⟩ := Kd.R_slice HO391.out; subst eo95) | (go_at_call 39; (with_reducible refine (spec_RaiseForce.calls k8 _ _ y389 t350 (wrap64 (1 + (wrap64 (t351 * 100)))) t392 t393 _ ?side1 ?side2 A82.out).mono ?_); (case side1 => repeat (first | exact (Kd.R_reads' HO391.out).2.2 | (with_reducible refine Kd.C_alloc ?_ _) | (with_reducible refine Kd.C_drewN ?_ _) | (with_reducible refine Kd.C_drew ?_))); (case side2 => exact (Kd.R_reads' HO391.out).2.1); rintro e w96 ⟨rfl, hb⟩; have n0_ := Aside0.mk (Kd.R_below (by (with_reducible repeat (first | apply Kd.R_alloc | apply Kd.R_drewN | apply Kd.R_drew)); exact HO386.out) hb); have n1_ := Aside0.mk (Kd.R_below (by (with_reducible repeat (first | apply Kd.R_alloc | apply Kd.R_drewN | apply Kd.R_drew)); exact HO391.out) hb); have n2_ := Aside0.mk (blk_below (g := gb377) (o := .cells #[.int .i64 t373, .int .i64 t374, .bool t375] 27 (0, 0)) (by (with_reducible repeat (first | refine blk_drewN ?_ _ | refine blk_drew ?_ | refine blk_alloc ?_ _)); exact BK377.out) hb); have n3_ := Aside0.mk (below_step (by repeat (first | (with_reducible first | exact HB.out | apply below_alloc | apply pw_below_drewN | apply below_drew1 | refine below_set ?_ GE377.out) | exact HB.out)) hb); clear HO386; clear HO391; clear BK377; clear HB; have HO386 := n0_; have HO391 := n1_; have BK377 := n2_; have HB := n3_; clear n0_ n1_ n2_ n3_; (try clear hb); (try clear hb2); (try clear hk); (try clear hi))); try go_wp2_with (first | ((with_reducible refine gate_dst (N := 238) rfl ?_); (try (refine gate_guard (by rfl) ?_; dsimp only)); refine Kd.R_lit k27 _ 27 ?hg (N := 238) ?hd (xs := ([(⟨wrap64 (Int.tdiv (wrap64 (x23_8 + 1)) 2), wrap64 (Int.tdiv x23_8 2), false⟩ : S27)] : List (S27))) (inner := [.int .i64 (wrap64 (Int.tdiv (wrap64 (x23_8 + 1)) 2)), .int .i64 (wrap64 (Int.tdiv x23_8 2)), .bool false]) (ok := fun _ => True) (okp := fun _ => True) ?hr ?hp (fun _ hk => hk) trivial (Below.refl _ _) (Nat.le_refl _) (by simp) ?_; (case hd => rfl); (case hg => rfl); (case hr => first | (go_simp; done) | (go_simp; rfl)); (case hp => exact (Reps.c3 (show Kd.M k27 _ _ _ (⟨wrap64 (Int.tdiv (wrap64 (x23_8 + 1)) 2), wrap64 (Int.tdiv x23_8 2), false⟩ : S27) [.int .i64 (wrap64 (Int.tdiv (wrap64 (x23_8 + 1)) 2)), .int .i64 (wrap64 (Int.tdiv x23_8 2)), .bool false] from (k27_mkM _ _ _ (⟨wrap64 (Int.tdiv (wrap64 (x23_8 + 1)) 2), wrap64 (Int.tdiv x23_8 2), false⟩ : S27) )) (Reps.none _ _))); intro v385 w89 ho90 hb hg_ hnew_; clear hg_ hnew_; (first | rw [← Ny384.out] at ho90 | (simp only [Int.reduceToNat] at ho90; rw [← Ny384.out] at ho90)); have n0_ := Aside0.mk (Kd.R_lower (Kd.R_newB ho90 (g := gb377) (o := .cells #[.int .i64 t373, .int .i64 t374, .bool t375] 27 (0, 0)) (by (with_reducible repeat (first | refine blk_drewN ?_ _ | refine blk_drew ?_ | refine blk_alloc ?_ _)); exact BK377.out)) (below_size (by repeat (first | (with_reducible first | exact HB.out | apply below_alloc | apply pw_below_drewN | apply below_drew1 | refine below_set ?_ GE377.out) | exact HB.out)))); have n1_ := Aside0.mk (blk_below (g := gb377) (o := .cells #[.int .i64 t373, .int .i64 t374, .bool t375] 27 (0, 0)) (by (with_reducible repeat (first | refine blk_drewN ?_ _ | refine blk_drew ?_ | refine blk_alloc ?_ _)); exact BK377.out) hb); have n2_ := Aside0.mk (below_step (by repeat (first | (with_reducible first | exact HB.out | apply below_alloc | apply pw_below_drewN | apply below_drew1 | refine below_set ?_ GE377.out) | exact HB.out)) hb); clear BK377; clear HB; have HO386 := n0_; have BK377 := n1_; have HB := n2_; clear n0_ n1_ n2_; clear hb ho90; obtain ⟨Ao91, co91, eo91⟩ := Kd.R_slice HO386.out; subst eo91) | (go_at_call 39; (with_reducible refine (spec_RaiseForce.calls k8 _ _ y384 t350 (wrap64 (1 + (wrap64 (t351 * 100)))) t387 t388 _ ?side1 ?side2 A81.out).mono ?_); (case side1 => repeat (first | exact (Kd.R_reads' HO386.out).2.2 | (with_reducible refine Kd.C_alloc ?_ _) | (with_reducible refine Kd.C_drewN ?_ _) | (with_reducible refine Kd.C_drew ?_))); (case side2 => exact (Kd.R_reads' HO386.out).2.1); rintro e w92 ⟨rfl, hb⟩; have n0_ := Aside0.mk (Kd.R_below (by (with_reducible repeat (first | apply Kd.R_alloc | apply Kd.R_drewN | apply Kd.R_drew)); exact HO386.out) hb); have n1_ := Aside0.mk (blk_below (g := gb377) (o := .cells #[.int .i64 t373, .int .i64 t374, .bool t375] 27 (0, 0)) (by (with_reducible repeat (first | refine blk_drewN ?_ _ | refine blk_drew ?_ | refine blk_alloc ?_ _)); exact BK377.out) hb); have n2_ := Aside0.mk (below_step (by repeat (first | (with_reducible first | exact HB.out | apply below_alloc | apply pw_below_drewN | apply below_drew1 | refine below_set ?_ GE377.out) | exact HB.out)) hb); clear HO386; clear BK377; clear HB; have HO386 := n0_; have BK377 := n1_; have HB := n2_; clear n0_ n1_ n2_; (try clear hb); (try clear hb2); (try clear hk); (try clear hi)) | ((with_reducible refine gate_dst (N := 251) rfl ?_); (try (refine gate_guard (by rfl) ?_; dsimp only)); refine Kd.R_lit k27 _ 27 ?hg (N := 251) ?hd (xs := ([(⟨wrap64 (Int.tdiv x23_8 2), wrap64 (Int.tdiv (wrap64 (x23_8 + 1)) 2), true⟩ : S27)] : List (S27))) (inner := [.int .i64 (wrap64 (Int.tdiv x23_8 2)), .int .i64 (wrap64 (Int.tdiv (wrap64 (x23_8 + 1)) 2)), .bool true]) (ok := fun _ => True) (okp := fun _ => True) ?hr ?hp (fun _ hk => hk) trivial (Below.refl _ _) (Nat.le_refl _) (by simp) ?_; (case hd => rfl); (case hg => rfl); (case hr => first | (go_simp; done) | (go_simp; rfl)); (case hp => exact (Reps.c3 (show Kd.M k27 _ _ _ (⟨wrap64 (Int.tdiv x23_8 2), wrap64 (Int.tdiv (wrap64 (x23_8 + 1)) 2), true⟩ : S27) [.int .i64 (wrap64 (Int.tdiv x23_8 2)), .int .i64 (wrap64 (Int.tdiv (wrap64 (x23_8 + 1)) 2)), .bool true] from (k27_mkM _ _ _ (⟨wrap64 (Int.tdiv x23_8 2), wrap64 (Int.tdiv (wrap64 (x23_8 + 1)) 2), true⟩ : S27) )) (Reps.none _ _))); intro v390 w93 ho94 hb hg_ hnew_; clear hg_ hnew_; (first | rw [← Ny389.out] at ho94 | (simp only [Int.reduceToNat] at ho94; rw [← Ny389.out] at ho94)); have n0_ := Aside0.mk (Kd.R_elder' (by (with_reducible repeat (first | apply Kd.R_alloc | apply Kd.R_drewN | apply Kd.R_drew)); exact HO386.out) (Kd.R_base ho94) hb); have n1_ := Aside0.mk (Kd.R_lower (Kd.R_newB (Kd.R_new' ho94 (Kd.R_lt (by (with_reducible repeat (first | apply Kd.R_alloc | apply Kd.R_drewN | apply Kd.R_drew)); exact HO386.out))) (g := gb377) (o := .cells #[.int .i64 t373, .int .i64 t374, .bool t375] 27 (0, 0)) (by (with_reducible repeat (first | refine blk_drewN ?_ _ | refine blk_drew ?_ | refine blk_alloc ?_ _)); exact BK377.out)) (below_size (by repeat (first | (with_reducible first | exact HB.out | apply below_alloc | apply pw_below_drewN | apply below_drew1 | refine below_set ?_ GE377.out) | exact HB.out)))); have n2_ := Aside0.mk (blk_below (g := gb377) (o := .cells #[.int .i64 t373, .int .i64 t374, .bool t375] 27 (0, 0)) (by (with_reducible repeat (first | refine blk_drewN ?_ _ | refine blk_drew ?_ | refine blk_alloc ?_ _)); exact BK377.out) hb); have n3_ := Aside0.mk (below_step (by repeat (first | (with_reducible first | exact HB.out | apply below_alloc | apply pw_below_drewN | apply below_drew1 | refine below_set ?_ GE377.out) | exact HB.out)) hb); clear HO386; clear BK377; clear HB; have HO386 := n0_; have HO391 := n1_; have BK377 := n2_; have HB := n3_; clear n0_ n1_ n2_ n3_; clear hb ho94; obtain ⟨Ao95, co95, eo95⟩ := Kd.R_slice HO391.out; subst eo95) | (go_at_call 39; (with_reducible refine (spec_RaiseForce.calls k8 _ _ y389 t350 (wrap64 (1 + (wrap64 (t351 * 100)))) t392 t393 _ ?side1 ?side2 A82.out).mono ?_); (case side1 => repeat (first | exact (Kd.R_reads' HO391.out).2.2 | (with_reducible refine Kd.C_alloc ?_ _) | (with_reducible refine Kd.C_drewN ?_ _) | (with_reducible refine Kd.C_drew ?_))); (case side2 => exact (Kd.R_reads' HO391.out).2.1); rintro e w96 ⟨rfl, hb⟩; have n0_ := Aside0.mk (Kd.R_below (by (with_reducible repeat (first | apply Kd.R_alloc | apply Kd.R_drewN | apply Kd.R_drew)); exact HO386.out) hb); have n1_ := Aside0.mk (Kd.R_below (by (with_reducible repeat (first | apply Kd.R_alloc | apply Kd.R_drewN | apply Kd.R_drew)); exact HO391.out) hb); have n2_ := Aside0.mk (blk_below (g := gb377) (o := .cells #[.int .i64 t373, .int .i64 t374, .bool t375] 27 (0, 0)) (by (with_reducible repeat (first | refine blk_drewN ?_ _ | refine blk_drew ?_ | refine blk_alloc ?_ _)); exact BK377.out) hb); have n3_ := Aside0.mk (below_step (by repeat (first | (with_reducible first | exact HB.out | apply below_alloc | apply pw_below_drewN | apply below_drew1 | refine below_set ?_ GE377.out) | exact HB.out)) hb); clear HO386; clear HO391; clear BK377; clear HB; have HO386 := n0_; have HO391 := n1_; have BK377 := n2_; have HB := n3_; clear n0_ n1_ n2_ n3_; (try clear hb); (try clear hb2); (try clear hk); (try clear hi)))); go_ret)
                             exact ⟨by first | rfl | (simp [errW_none, errW_some] <;> rfl) | (simp only [← hji60, ← hji85, ← hji86]; first | rfl | (simp [errW_none, errW_some] <;> rfl)) | (simp [*, errW_none, errW_some] <;> rfl), by repeat (first | (with_reducible first | exact HB.out | apply below_alloc | apply pw_below_drewN | apply below_drew1 | refine below_set ?_ GE377.out) | exact HB.out)⟩
                            ·rw [if_neg c87] at H
                             have c87b0 : decide ((ji85) ≤ (ji86)) = false := decide_eq_false c87
                             clear c87
                             have H' := Aside0.mk H
                             clear H
                             have hcz97_0 : wr.cell? ⟨gb377, 0, none⟩ = some (.int .i64 t373) := (blk_cell BK377.out 0).trans rfl
                             have hcz97_1 : wr.cell? ⟨gb377, 1, none⟩ = some (.int .i64 t374) := (blk_cell BK377.out 1).trans rfl
                             have hcz97_2 : wr.cell? ⟨gb377, 2, none⟩ = some (.bool t375) := (blk_cell BK377.out 2).trans rfl
                             have hfz97_0 := blk_frozen BK377.out 0
                             have hfz97_1 := blk_frozen BK377.out 1
                             have hfz97_2 := blk_frozen BK377.out 2
                             go_wp2_with (first | ((with_reducible refine gate_dst (N := 238) rfl ?_); (try (refine gate_guard (by rfl) ?_; dsimp only)); refine Kd.R_lit k27 _ 27 ?hg (N := 238) ?hd (xs := ([(⟨wrap64 (Int.tdiv (wrap64 (x23_8 + 1)) 2), wrap64 (Int.tdiv x23_8 2), false⟩ : S27)] : List (S27))) (inner := [.int .i64 (wrap64 (Int.tdiv (wrap64 (x23_8 + 1)) 2)), .int .i64 (wrap64 (Int.tdiv x23_8 2)), .bool false]) (ok := fun _ => True) (okp := fun _ => True) ?hr ?hp (fun _ hk => hk) trivial (Below.refl _ _) (Nat.le_refl _) (by simp) ?_; (case hd => rfl); (case hg => rfl); (case hr => first | (go_simp; done) | (go_simp; rfl)); (case hp => exact (Reps.c3 (show Kd.M k27 _ _ _ (⟨wrap64 (Int.tdiv (wrap64 (x23_8 + 1)) 2), wrap64 (Int.tdiv x23_8 2), false⟩ : S27) [.int .i64 (wrap64 (Int.tdiv (wrap64 (x23_8 + 1)) 2)), .int .i64 (wrap64 (Int.tdiv x23_8 2)), .bool false] from (k27_mkM _ _ _ (⟨wrap64 (Int.tdiv (wrap64 (x23_8 + 1)) 2), wrap64 (Int.tdiv x23_8 2), false⟩ : S27) )) (Reps.none _ _))); intro v385 w98 ho99 hb hg_ hnew_; clear hg_ hnew_; (first | rw [← Ny384.out] at ho99 | (simp only [Int.reduceToNat] at ho99; rw [← Ny384.out] at ho99)); have n0_ := Aside0.mk (Kd.R_lower (Kd.R_newB ho99 (g := gb377) (o := .cells #[.int .i64 t373, .int .i64 t374, .bool t375] 27 (0, 0)) (by (with_reducible repeat (first | refine blk_drewN ?_ _ | refine blk_drew ?_ | refine blk_alloc ?_ _)); exact BK377.out)) (below_size (by repeat (first | (with_reducible first | exact HB.out | apply below_alloc | apply pw_below_drewN | apply below_drew1 | refine below_set ?_ GE377.out) | exact HB.out)))); have n1_ := Aside0.mk (blk_below (g := gb377) (o := .cells #[.int .i64 t373, .int .i64 t374, .bool t375] 27 (0, 0)) (by (with_reducible repeat (first | refine blk_drewN ?_ _ | refine blk_drew ?_ | refine blk_alloc ?_ _)); exact BK377.out) hb); have n2_ := Aside0.mk (below_step (by repeat (first | (with_reducible first | exact HB.out | apply below_alloc | apply pw_below_drewN | apply below_drew1 | refine below_set ?_ GE377.out) | exact HB.out)) hb); clear BK377; clear HB; have HO386 := n0_; have BK377 := n1_; have HB := n2_; clear n0_ n1_ n2_; clear hb ho99; obtain ⟨Ao100, co100, eo100⟩ := Kd.R_slice HO386.out; subst eo100) | (go_at_call 39; (with_reducible refine (spec_RaiseForce.calls k8 _ _ y384 t350 (wrap64 (1 + (wrap64 (t351 * 100)))) t387 t388 _ ?side1 ?side2 A81.out).mono ?_); (case side1 => repeat (first | exact (Kd.R_reads' HO386.out).2.2 | (with_reducible refine Kd.C_alloc ?_ _) | (with_reducible refine Kd.C_drewN ?_ _) | (with_reducible refine Kd.C_drew ?_))); (case side2 => exact (Kd.R_reads' HO386.out).2.1); rintro e w101 ⟨rfl, hb⟩; have n0_ := Aside0.mk (Kd.R_below (by (with_reducible repeat (first | apply Kd.R_alloc | apply Kd.R_drewN | apply Kd.R_drew)); exact HO386.out) hb); have n1_ := Aside0.mk (blk_below (g := gb377) (o := .cells #[.int .i64 t373, .int .i64 t374, .bool t375] 27 (0, 0)) (by (with_reducible repeat (first | refine blk_drewN ?_ _ | refine blk_drew ?_ | refine blk_alloc ?_ _)); exact BK377.out) hb); have n2_ := Aside0.mk (below_step (by repeat (first | (with_reducible first | exact HB.out | apply below_alloc | apply pw_below_drewN | apply below_drew1 | refine below_set ?_ GE377.out) | exact HB.out)) hb); clear HO386; clear BK377; clear HB; have HO386 := n0_; have BK377 := n1_; have HB := n2_; clear n0_ n1_ n2_; (try clear hb); (try clear hb2); (try clear hk); (try clear hi)) | ((with_reducible refine gate_dst (N := 251) rfl ?_); (try (refine gate_guard (by rfl) ?_; dsimp only)); refine Kd.R_lit k27 _ 27 ?hg (N := 251) ?hd (xs := ([(⟨wrap64 (Int.tdiv x23_8 2), wrap64 (Int.tdiv (wrap64 (x23_8 + 1)) 2), true⟩ : S27)] : List (S27))) (inner := [.int .i64 (wrap64 (Int.tdiv x23_8 2)), .int .i64 (wrap64 (Int.tdiv (wrap64 (x23_8 + 1)) 2)), .bool true]) (ok := fun _ => True) (okp := fun _ => True) ?hr ?hp (fun _ hk => hk) trivial (Below.refl _ _) (Nat.le_refl _) (by simp) ?_; (case hd => rfl); (case hg => rfl); (case hr => first | (go_simp; done) | (go_simp; rfl)); (case hp => exact (Reps.c3 (show Kd.M k27 _ _ _ (⟨wrap64 (Int.tdiv x23_8 2), wrap64 (Int.tdiv (wrap64 (x23_8 + 1)) 2), true⟩ : S27) [.int .i64 (wrap64 (Int.tdiv x23_8 2)), .int .i64 (wrap64 (Int.tdiv (wrap64 (x23_8 + 1)) 2)), .bool true] from (k27_mkM _ _ _ (⟨wrap64 (Int.tdiv x23_8 2), wrap64 (Int.tdiv (wrap64 (x23_8 + 1)) 2), true⟩ : S27) )) (Reps.none _ _))); intro v390 w102 ho103 hb hg_ hnew_; clear hg_ hnew_; (first | rw [← Ny389.out] at ho103 | (simp only [Int.reduceToNat] at ho103; rw [← Ny389.out] at ho103)); have n0_ := Aside0.mk (Kd.R_elder' (by (with_reducible repeat (first | apply Kd.R_alloc | apply Kd.R_drewN | apply Kd.R_drew)); exact HO386.out) (Kd.R_base ho103) hb); have n1_ := Aside0.mk (Kd.R_lower (Kd.R_newB (Kd.R_new' ho103 (Kd.R_lt (by (with_reducible repeat (first | apply Kd.R_alloc | apply Kd.R_drewN | apply Kd.R_drew)); exact HO386.out))) (g := gb377) (o := .cells #[.int .i64 t373, .int .i64 t374, .bool t375] 27 (0, 0)) (by (with_reducible repeat (first | refine blk_drewN ?_ _ | refine blk_drew ?_ | refine blk_alloc ?_ _)); exact BK377.out)) (below_size (by repeat (first | (with_reducible first | exact HB.out | apply below_alloc | apply pw_below_drewN | apply below_drew1 | refine below_set ?_ GE377.out) | exact HB.out)))); have n2_ := Aside0.mk (blk_below (g := gb377) (o := .cells #[.int .i64 t373, .int .i64 t374, .bool t375] 27 (0, 0)) (by (with_reducible repeat (first | refine blk_drewN ?_ _ | refine blk_drew ?_ | refine blk_alloc ?_ _)); exact BK377.out) hb); have n3_ := Aside0.mk (below_step (by repeat (first | (with_reducible first | exact HB.out | apply below_alloc | apply pw_below_drewN | apply below_drew1 | refine below_set ?_ GE377.out) | exact HB.out)) hb); clear HO386; clear BK377; clear HB; have HO386 := n0_; have HO391 := n1_; have BK377 := n2_; have HB := n3_; clear n0_ n1_ n2_ n3_; clear hb ho103; obtain ⟨Ao104, co104, eo104⟩ := Kd.R_slice HO391.out; subst eo104) | (go_at_call 39; (with_reducible refine (spec_RaiseForce.calls k8 _ _ y389 t350 (wrap64 (1 + (wrap64 (t351 * 100)))) t392 t393 _ ?side1 ?side2 A82.out).mono ?_); (case side1 => repeat (first | exact (Kd.R_reads' HO391.out).2.2 | (with_reducible refine Kd.C_alloc ?_ _) | (with_reducible refine Kd.C_drewN ?_ _) | (with_reducible refine Kd.C_drew ?_))); (case side2 => exact (Kd.R_reads' HO391.out).2.1); rintro e w105 ⟨rfl, hb⟩; have n0_ := Aside0.mk (Kd.R_below (by (with_reducible repeat (first | apply Kd.R_alloc | apply Kd.R_drewN | apply Kd.R_drew)); exact HO386.out) hb); have n1_ := Aside0.mk (Kd.R_below (by (with_reducible repeat (first | apply Kd.R_alloc | apply Kd.R_drewN | apply Kd.R_drew)); exact HO391.out) hb); have n2_ := Aside0.mk (blk_below (g := gb377) (o := .cells #[.int .i64 t373, .int .i64 t374, .bool t375] 27 (0, 0)) (by (with_reducible repeat (first | refine blk_drewN ?_ _ | refine blk_drew ?_ | refine blk_alloc ?_ _)); exact BK377.out) hb); have n3_ := Aside0.mk (below_step (by repeat (first | (with_reducible first | exact HB.out | apply below_alloc | apply pw_below_drewN | apply below_drew1 | refine below_set ?_ GE377.out) | exact HB.out)) hb); clear HO386; clear HO391; clear BK377; clear HB; have HO386 := n0_; have HO391 := n1_; have BK377 := n2_; have HB := n3_; clear n0_ n1_ n2_ n3_; (try clear hb); (try clear hb2); (try clear hk); (try clear hi)))
                             repeat (go_quiet (first | ((with_reducible refine gate_dst (N := 238) rfl ?_); (try (refine gate_guard (by rfl) ?_; dsimp only)); refine Kd.R_lit k27 _ 27 ?hg (N := 238) ?hd (xs := ([(⟨wrap64 (Int.tdiv (wrap64 (x23_8 + 1)) 2), wrap64 (Int.tdiv x23_8 2), false⟩ : S27)] : List (S27))) (inner := [.int .i64 (wrap64 (Int.tdiv (wrap64 (x23_8 + 1)) 2)), .int .i64 (wrap64 (Int.tdiv x23_8 2)), .bool false]) (ok := fun _ => True) (okp := fun _ => True) ?hr ?hp (fun _ hk => hk) trivial (Below.refl _ _) (Nat.le_refl _) (by simp) ?_; (case hd => rfl); (case hg => rfl); (case hr => first | (go_simp; done) | (go_simp; rfl)); (case hp => exact (Reps.c3 (show Kd.M k27 _ _ _ (⟨wrap64 (Int.tdiv (wrap64 (x23_8 + 1)) 2), wrap64 (Int.tdiv x23_8 2), false⟩ : S27) [.int .i64 (wrap64 (Int.tdiv (wrap64 (x23_8 + 1)) 2)), .int .i64 (wrap64 (Int.tdiv x23_8 2)), .bool false] from (k27_mkM _ _ _ (⟨wrap64 (Int.tdiv (wrap64 (x23_8 + 1)) 2), wrap64 (Int.tdiv x23_8 2), false⟩ : S27) )) (Reps.none _ _))); intro v385 w98 ho99 hb hg_ hnew_; clear hg_ hnew_; (first | rw [← Ny384.out] at ho99 | (simp only [Int.reduceToNat] at ho99; rw [← Ny384.out] at ho99)); have n0_ := Aside0.mk (Kd.R_lower (Kd.R_newB ho99 (g := gb377) (o := .cells #[.int .i64 t373, .int .i64 t374, .bool t375] 27 (0, 0)) (by (with_reducible repeat (first | refine blk_drewN ?_ _ | refine blk_drew ?_ | refine blk_alloc ?_ _)); exact BK377.out)) (below_size (by repeat (first | (with_reducible first | exact HB.out | apply below_alloc | apply pw_below_drewN | apply below_drew1 | refine below_set ?_ GE377.out) | exact HB.out)))); have n1_ := Aside0.mk (blk_below (g := gb377) (o := .cells #[.int .i64 t373, .int .i64 t374, .bool t375] 27 (0, 0)) (by (with_reducible repeat (first | refine blk_drewN ?_ _ | refine blk_drew ?_ | refine blk_alloc ?_ _)); exact BK377.out) hb); have n2_ := Aside0.mk (below_step (by repeat (first | (with_reducible first | exact HB.out | apply below_alloc | apply pw_below_drewN | apply below_drew1 | refine below_set ?_ GE377.out) | exact HB.out)) hb); clear BK377; clear HB; have HO386 := n0_; have BK377 := n1_; have HB := n2_; clear n0_ n1_ n2_; clear hb ho99; obtain ⟨Ao100, co100, eo100⟩ := Kd.R_slice HO386.out; subst eo100) | (go_at_call 39; (with_reducible refine (spec_RaiseForce.calls k8 _ _ y384 t350 (wrap64 (1 + (wrap64 (t351 * 100)))) t387 t388 _ ?side1 ?side2 A81.out).mono ?_); (case side1 => repeat (first | exact (Kd.R_reads' HO386.out).2.2 | (with_reducible refine Kd.C_alloc ?_ _) | (with_reducible refine Kd.C_drewN ?_ _) | (with_reducible refine Kd.C_drew ?_))); (case side2 => exact (Kd.R_reads' HO386.out).2.1); rintro e w101 ⟨rfl, hb⟩; have n0_ := Aside0.mk (Kd.R_below (by (with_reducible repeat (first | apply Kd.R_alloc | apply Kd.R_drewN | apply Kd.R_drew)); exact HO386.out) hb); have n1_ := Aside0.mk (blk_below (g := gb377) (o := .cells #[.int .i64 t373, .int .i64 t374, .bool t375] 27 (0, 0)) (by (with_reducible repeat (first | refine blk_drewN ?_ _ | refine blk_drew ?_ | refine blk_alloc ?_ _)); exact BK377.out) hb); have n2_ := Aside0.mk (below_step (by repeat (first | (with_reducible first | exact HB.out | apply below_alloc | apply pw_below_drewN | apply below_drew1 | refine below_set ?_ GE377.out) | exact HB.out)) hb); clear HO386; clear BK377; clear HB; have HO386 := n0_; have BK377 := n1_; have HB := n2_; clear n0_ n1_ n2_; (try clear hb); (try clear hb2); (try clear hk); (try clear hi)) | ((with_reducible refine gate_dst (N := 251) rfl ?_); (try (refine gate_guard (by rfl) ?_; dsimp only)); refine Kd.R_lit k27 _ 27 ?hg (N := 251) ?hd (xs := ([(⟨wrap64 (Int.tdiv x23_8 2), wrap64 (Int.tdiv (wrap64 (x23_8 + 1)) 2), true⟩ : S27)] : List (S27))) (inner := [.int .i64 (wrap64 (Int.tdiv x23_8 2)), .int .i64 (wrap64 (Int.tdiv (wrap64 (x23_8 + 1)) 2)), .bool true]) (ok := fun _ => True) (okp := fun _ => True) ?hr ?hp (fun _ hk => hk) trivial (Below.refl _ _) (Nat.le_refl _) (by simp) ?_; (case hd => rfl); (case hg => rfl); (case hr => first | (go_simp; done) | (go_simp; rfl)); (case hp => exact (Reps.c3 (show Kd.M k27 _ _ _ (⟨wrap64 (Int.tdiv x23_8 2), wrap64 (Int.tdiv (wrap64 (x23_8 + 1)) 2), true⟩ : S27) [.int .i64 (wrap64 (Int.tdiv x23_8 2)), .int .i64 (wrap64 (Int.tdiv (wrap64 (x23_8 + 1)) 2)), .bool true] from (k27_mkM _ _ _ (⟨wrap64 (Int.tdiv x23_8 2), wrap64 (Int.tdiv (wrap64 (x23_8 + 1)) 2), true⟩ : S27) )) (Reps.none _ _))); intro v390 w102 ho103 hb hg_ hnew_; clear hg_ hnew_; (first | rw [← Ny389.out] at ho103 | (simp only [Int.reduceToNat] at ho103; rw [← Ny389.out] at ho103)); have n0_ := Aside0.mk (Kd.R_elder' (by (with_reducible repeat (first | apply Kd.R_alloc | apply Kd.R_drewN | apply Kd.R_drew)); exact HO386.out) (Kd.R_base ho103) hb); have n1_ := Aside0.mk (Kd.R_lower (Kd.R_newB (Kd.R_new' ho103 (Kd.R_lt (by (with_reducible repeat (first | apply Kd.R_alloc | apply Kd.R_drewN | apply Kd.R_drew)); exact HO386.out))) (g := gb377) (o := .cells #[.int .i64 t373, .int .i64 t374, .bool t375] 27 (0, 0)) (by (with_reducible repeat (first | refine blk_drewN ?_ _ | refine blk_drew ?_ | refine blk_alloc ?_ _)); exact BK377.out)) (below_size (by repeat (first | (with_reducible first | exact HB.out | apply below_alloc | apply pw_below_drewN | apply below_drew1 | refine below_set ?_ GE377.out) | exact HB.out)))); have n2_ := Aside0.mk (blk_below (g := gb377) (o := .cells #[.int .i64 t373, .int .i64 t374, .bool t375] 27 (0, 0)) (by (with_reducible repeat (first | refine blk_drewN ?_ _ | refine blk_drew ?_ | refine blk_alloc ?_ _)); exact BK377.out) hb); have n3_ := Aside0.mk (below_step (by repeat (first | (with_reducible first | exact HB.out | apply below_alloc | apply pw_below_drewN | apply below_drew1 | refine below_set ?_ GE377.out) | exact HB.out)) hb); clear HO386; clear BK377; clear HB; have HO386 := n0_; have HO391 := n1_; have BK377 := n2_; have HB := n3_; clear n0_ n1_ n2_ n3_; clear hb ho103; obtain ⟨Ao104, co104, eo104⟩ := Kd.R_slice HO391.out; subst eo104) | (go_at_call 39; (with_reducible refine (spec_RaiseForce.calls k8 _ _ y389 t350 (wrap64 (1 + (wrap64 (t351 * 100)))) t392 t393 _ ?side1 ?side2 A82.out).mono ?_); (case side1 => repeat (first | exact (Kd.R_reads' HO391.out).2.2 | (with_reducible refine Kd.C_alloc ?_ _) | (with_reducible refine Kd.C_drewN ?_ _) | (with_reducible refine Kd.C_drew ?_))); (case side2 => exact (Kd.R_reads' HO391.out).2.1); rintro e w105 ⟨rfl, hb⟩; have n0_ := Aside0.mk (Kd.R_below (by (with_reducible repeat (first | apply Kd.R_alloc | apply Kd.R_drewN | apply Kd.R_drew)); exact HO386.out) hb); have n1_ := Aside0.mk (Kd.R_below (by (with_reducible repeat (first | apply Kd.R_alloc | apply Kd.R_drewN | apply Kd.R_drew)); exact HO391.out) hb); have n2_ := Aside0.mk (blk_below (g := gb377) (o := .cells #[.int .i64 t373, .int .i64 t374, .bool t375] 27 (0, 0)) (by (with_reducible repeat (first | refine blk_drewN ?_ _ | refine blk_drew ?_ | refine blk_alloc ?_ _)); exact BK377.out) hb); have n3_ := Aside0.mk (below_step (by repeat (first | (with_reducible first | exact HB.out | apply below_alloc | apply pw_below_drewN | apply below_drew1 | refine below_set ?_ GE377.out) | exact HB.out)) hb); clear HO386; clear HO391; clear BK377; clear HB; have HO386 := n0_; have HO391 := n1_; have BK377 := n2_; have HB := n3_; clear n0_ n1_ n2_ n3_; (try clear hb); (try clear hb2); (try clear hk); (try clear hi))); try go_wp2_with (first | ((with_reducible refine gate_dst (N := 238) rfl ?_); (try (refine gate_guard (by rfl) ?_; dsimp only)); refine Kd.R_lit k27 _ 27 ?hg (N := 238) ?hd (xs := ([(⟨wrap64 (Int.tdiv (wrap64 (x23_8 + 1)) 2), wrap64 (Int.tdiv x23_8 2), false⟩ : S27)] : List (S27))) (inner := [.int .i64 (wrap64 (Int.tdiv (wrap64 (x23_8 + 1)) 2)), .int .i64 (wrap64 (Int.tdiv x23_8 2)), .bool false]) (ok := fun _ => True) (okp := fun _ => True) ?hr ?hp (fun _ hk => hk) trivial (Below.refl _ _) (Nat.le_refl _) (by simp) ?_; (case hd => rfl); (case hg => rfl); (case hr => first | (go_simp; done) | (go_simp; rfl)); (case hp => exact (Reps.c3 (show Kd.M k27 _ _ _ (⟨wrap64 (Int.tdiv (wrap64 (x23_8 + 1)) 2), wrap64 (Int.tdiv x23_8 2), false⟩ : S27) [.int .i64 (wrap64 (Int.tdiv (wrap64 (x23_8 + 1)) 2)), .int .i64 (wrap64 (Int.tdiv x23_8 2)), .bool false] from (k27_mkM _ _ _ (⟨wrap64 (Int.tdiv (wrap64 (x23_8 + 1)) 2), wrap64 (Int.tdiv x23_8 2), false⟩ : S27) )) (Reps.none _ _))); intro v385 w98 ho99 hb hg_ hnew_; clear hg_ hnew_; (first | rw [← Ny384.out] at ho99 | (simp only [Int.reduceToNat] at ho99; rw [← Ny384.out] at ho99)); have n0_ := Aside0.mk (Kd.R_lower (Kd.R_newB ho99 (g := gb377) (o := .cells #[.int .i64 t373, .int .i64 t374, .bool t375] 27 (0, 0)) (by (with_reducible repeat (first | refine blk_drewN ?_ _ | refine blk_drew ?_ | refine blk_alloc ?_ _)); exact BK377.out)) (below_size (by repeat (first | (with_reducible first | exact HB.out | apply below_alloc | apply pw_below_drewN | apply below_drew1 | refine below_set ?_ GE377.out) | exact HB.out)))); have n1_ := Aside0.mk (blk_below (g := gb377) (o := .cells #[.int .i64 t373, .int .i64 t374, .bool t375] 27 (0, 0)) (by (with_reducible repeat (first | refine blk_drewN ?_ _ | refine blk_drew ?_ | refine blk_alloc ?_ _)); exact BK377.out) hb); have n2_ := Aside0.mk (below_step (by repeat (first | (with_reducible first | exact HB.out | apply below_alloc | apply pw_below_drewN | apply below_drew1 | refine below_set ?_ GE377.out) | exact HB.out)) hb); clear BK377; clear HB; have HO386 := n0_; have BK377 := n1_; have HB := n2_; clear n0_ n1_ n2_; clear hb ho99; obtain ⟨Ao100, co100, eo100⟩ := Kd.R_slice HO386.out; subst eo100) | (go_at_call 39; (with_reducible refine (spec_RaiseForce.calls k8 _ _ y384 t350 (wrap64 (1 + (wrap64 (t351 * 100)))) t387 t388 _ ?side1 ?side2 A81.out).mono ?_); (case side1 => repeat (first | exact (Kd.R_reads' HO386.out).2.2 | (with_reducible refine Kd.C_alloc ?_ _) | (with_reducible refine Kd.C_drewN ?_ _) | (with_reducible refine Kd.C_drew ?_))); (case side2 => exact (Kd.R_reads' HO386.out).2.1); rintro e w101 ⟨rfl, hb⟩; have n0_ := Aside0.mk (Kd.R_below (by (with_reducible repeat (first | apply Kd.R_alloc | apply Kd.R_drewN | apply Kd.R_drew)); exact HO386.out) hb); have n1_ := Aside0.mk (blk_below (g := gb377) (o := .cells #[.int .i64 t373, .int .i64 t374, .bool t375] 27 (0, 0)) (by (with_reducible repeat (first | refine blk_drewN ?_ _ | refine blk_drew ?_ | refine blk_alloc ?_ _)); exact BK377.out) hb); have n2_ := Aside0.mk (below_step (by repeat (first | (with_reducible first | exact HB.out | apply below_alloc | apply pw_below_drewN | apply below_drew1 | refine below_set ?_ GE377.out) | exact HB.out)) hb); clear HO386; clear BK377; clear HB; have HO386 := n0_; have BK377 := n1_; have HB := n2_; clear n0_ n1_ n2_; (try clear hb); (try clear hb2); (try clear hk); (try clear hi)) | ((with_reducible refine gate_dst (N := 251) rfl ?_); (try (refine gate_guard (by rfl) ?_; dsimp only)); refine Kd.R_lit k27 _ 27 ?hg (N := 251) ?hd (xs := ([(⟨wrap64 (Int.tdiv x23_8 2), wrap64 (Int.tdiv (wrap64 (x23_8 + 1)) 2), true⟩ : S27)] : List (S27))) (inner := [.int .i64 (wrap64 (Int.tdiv x23_8 2)), .int .i64 (wrap64 (Int.tdiv (wrap64 (x23_8 + 1)) 2)), .bool true]) (ok := fun _ => True) (okp := fun _ => True) ?hr ?hp (fun _ hk => hk) trivial (Below.refl _ _) (Nat.le_refl _) (by simp) ?_; (case hd => rfl); (case hg => rfl); (case hr => first | (go_simp; done) | (go_simp; rfl)); (case hp => exact (Reps.c3 (show Kd.M k27 _ _ _ (⟨wrap64 (Int.tdiv x23_8 2), wrap64 (Int.tdiv (wrap64 (x23_8 + 1)) 2), true⟩ : S27) [.int .i64 (wrap64 (Int.tdiv x23_8 2)), .int .i64 (wrap64 (Int.tdiv (wrap64 (x23_8 + 1)) 2)), .bool true] from (k27_mkM _ _ _ (⟨wrap64 (Int.tdiv x23_8 2), wrap64 (Int.tdiv (wrap64 (x23_8 + 1)) 2), true⟩ : S27) )) (Reps.none _ _))); intro v390 w102 ho103 hb hg_ hnew_; clear hg_ hnew_; (first | rw [← Ny389.out] at ho103 | (simp only [Int.reduceToNat] at ho103; rw [← Ny389.out] at ho103)); have n0_ := Aside0.mk (Kd.R_elder' (by (with_reducible repeat (first | apply Kd.R_alloc | apply Kd.R_drewN | apply Kd.R_drew)); exact HO386.out) (Kd.R_base ho103) hb); have n1_ := Aside0.mk (Kd.R_lower (Kd.R_newB (Kd.R_new' ho103 (Kd.R_lt (by (with_reducible repeat (first | apply Kd.R_alloc | apply Kd.R_drewN | apply Kd.R_drew)); exact HO386.out))) (g := gb377) (o := .cells #[.int .i64 t373, .int .i64 t374, .bool t375] 27 (0, 0)) (by (with_reducible repeat (first | refine blk_drewN ?_ _ | refine blk_drew ?_ | refine blk_alloc ?_ _)); exact BK377.out)) (below_size (by repeat (first | (with_reducible first | exact HB.out | apply below_alloc | apply pw_below_drewN | apply below_drew1 | refine below_set ?_ GE377.out) | exact HB.out)))); have n2_ := Aside0.mk (blk_below (g := gb377) (o := .cells #[.int .i64 t373, .int .i64 t374, .bool t375] 27 (0, 0)) (by (with_reducible repeat (first | refine blk_drewN ?_ _ | refine blk_drew ?_ | refine blk_alloc ?_ _)); exact BK377.out) hb); have n3_ := Aside0.mk (below_step (by repeat (first | (with_reducible first | exact HB.out | apply below_alloc | apply pw_below_drewN | apply below_drew1 | refine below_set ?_ GE377.out) | exact HB.out)) hb); clear HO386; clear BK377; clear HB; have HO386 := n0_; have HO391 := n1_; have BK377 := n2_; have HB := n3_; clear n0_ n1_ n2_ n3_; clear hb ho103; obtain ⟨Ao104, co104, eo104⟩ := Kd.R_slice HO391.out; subst eo104) | (go_at_call 39; (with_reducible refine (spec_RaiseForce.calls k8 _ _ y389 t350 (wrap64 (1 + (wrap64 (t351 * 100)))) t392 t393 _ ?side1 ?side2 A82.out).mono ?_); (case side1 => repeat (first | exact (Kd.R_reads' HO391.out).2.2 | (with_reducible refine Kd.C_alloc ?_ _) | (with_reducible refine Kd.C_drewN ?_ _) | (with_reducible refine Kd.C_drew ?_))); (case side2 => exact (Kd.R_reads' HO391.out).2.1); rintro e w105 ⟨rfl, hb⟩; have n0_ := Aside0.mk (Kd.R_below (by (with_reducible repeat (first | apply Kd.R_alloc | apply Kd.R_drewN | apply Kd.R_drew)); exact HO386.out) hb); have n1_ := Aside0.mk (Kd.R_below (by (with_reducible repeat (first | apply Kd.R_alloc | apply Kd.R_drewN | apply Kd.R_drew)); exact HO391.out) hb); have n2_ := Aside0.mk (blk_below (g := gb377) (o := .cells #[.int .i64 t373, .int .i64 t374, .bool t375] 27 (0, 0)) (by (with_reducible repeat (first | refine blk_drewN ?_ _ | refine blk_drew ?_ | refine blk_alloc ?_ _)); exact BK377.out) hb); have n3_ := Aside0.mk (below_step (by repeat (first | (with_reducible first | exact HB.out | apply below_alloc | apply pw_below_drewN | apply below_drew1 | refine below_set ?_ GE377.out) | exact HB.out)) hb); clear HO386; clear HO391; clear BK377; clear HB; have HO386 := n0_; have HO391 := n1_; have BK377 := n2_; have HB := n3_; clear n0_ n1_ n2_ n3_; (try clear hb); (try clear hb2); (try clear hk); (try clear hi))))
                             go_roundg k8
                             case measure => have := HJ9.out; have := HJ20.out; have := HJ28.out; have := HJ30.out; have := HJ40.out; have := HK6.out; have := HJ65.out; have := HK8.out; omega
                             case rel => exact ⟨(wrap64 (x23_8 + 1)), (by first | rfl | (simp; done) | (simp [*]; done)), H', ⟨by have := HJ9.out; have := HJ20.out; have := HJ28.out; have := HJ30.out; have := HJ40.out; have := HK6.out; have := HJ65.out; have := HK8.out; omega⟩, ⟨by (with_reducible repeat (first | refine blk_drewN ?_ _ | refine blk_drew ?_ | refine blk_alloc ?_ _)); exact BK377.out⟩, ⟨by repeat (first | (with_reducible first | exact HB.out | apply below_alloc | apply pw_below_drewN | apply below_drew1 | refine below_set ?_ GE377.out) | exact HB.out)⟩⟩
                           ·rw [if_neg c84] at H
                            have c84b0 : (t393 == 0) = false := beq_eq_false_iff_ne.mpr c84
                            have c84b1 : (t393 != 0) = true := bne_iff_ne.mpr c84
                            obtain rfl := Option.some.inj H
                            have hcz106_0 : wr.cell? ⟨gb377, 0, none⟩ = some (.int .i64 t373) := (blk_cell BK377.out 0).trans rfl
                            have hcz106_1 : wr.cell? ⟨gb377, 1, none⟩ = some (.int .i64 t374) := (blk_cell BK377.out 1).trans rfl
                            have hcz106_2 : wr.cell? ⟨gb377, 2, none⟩ = some (.bool t375) := (blk_cell BK377.out 2).trans rfl
                            have hfz106_0 := blk_frozen BK377.out 0
                            have hfz106_1 := blk_frozen BK377.out 1
                            have hfz106_2 := blk_frozen BK377.out 2
                            go_wp2_with (first | ((with_reducible refine gate_dst (N := 238) rfl ?_); (try (refine gate_guard (by rfl) ?_; dsimp only)); refine Kd.R_lit k27 _ 27 ?hg (N := 238) ?hd (xs := ([(⟨wrap64 (Int.tdiv (wrap64 (x23_8 + 1)) 2), wrap64 (Int.tdiv x23_8 2), false⟩ : S27)] : List (S27))) (inner := [.int .i64 (wrap64 (Int.tdiv (wrap64 (x23_8 + 1)) 2)), .int .i64 (wrap64 (Int.tdiv x23_8 2)), .bool false]) (ok := fun _ => True) (okp := fun _ => True) ?hr ?hp (fun _ hk => hk) trivial (Below.refl _ _) (Nat.le_refl _) (by simp) ?_; (case hd => rfl); (case hg => rfl); (case hr => first | (go_simp; done) | (go_simp; rfl)); (case hp => exact (Reps.c3 (show Kd.M k27 _ _ _ (⟨wrap64 (Int.tdiv (wrap64 (x23_8 + 1)) 2), wrap64 (Int.tdiv x23_8 2), false⟩ : S27) [.int .i64 (wrap64 (Int.tdiv (wrap64 (x23_8 + 1)) 2)), .int .i64 (wrap64 (Int.tdiv x23_8 2)), .bool false] from (k27_mkM _ _ _ (⟨wrap64 (Int.tdiv (wrap64 (x23_8 + 1)) 2), wrap64 (Int.tdiv x23_8 2), false⟩ : S27) )) (Reps.none _ _))); intro v385 w107 ho108 hb hg_ hnew_; clear hg_ hnew_; (first | rw [← Ny384.out] at ho108 | (simp only [Int.reduceToNat] at ho108; rw [← Ny384.out] at ho108)); have n0_ := Aside0.mk (Kd.R_lower (Kd.R_newB ho108 (g := gb377) (o := .cells #[.int .i64 t373, .int .i64 t374, .bool t375] 27 (0, 0)) (by (with_reducible repeat (first | refine blk_drewN ?_ _ | refine blk_drew ?_ | refine blk_alloc ?_ _)); exact BK377.out)) (below_size (by repeat (first | (with_reducible first | exact HB.out | apply below_alloc | apply pw_below_drewN | apply below_drew1 | refine below_set ?_ GE377.out) | exact HB.out)))); have n1_ := Aside0.mk (blk_below (g := gb377) (o := .cells #[.int .i64 t373, .int .i64 t374, .bool t375] 27 (0, 0)) (by (with_reducible repeat (first | refine blk_drewN ?_ _ | refine blk_drew ?_ | refine blk_alloc ?_ _)); exact BK377.out) hb); have n2_ := Aside0.mk (below_step (by repeat (first | (with_reducible first | exact HB.out | apply below_alloc | apply pw_below_drewN | apply below_drew1 | refine below_set ?_ GE377.out) | exact HB.out)) hb); clear BK377; clear HB; have HO386 := n0_; have BK377 := n1_; have HB := n2_; clear n0_ n1_ n2_; clear hb ho108; obtain ⟨Ao109, co109, eo109⟩ := Kd.R_slice HO386.out; subst eo109) | (go_at_call 39; (with_reducible refine (spec_RaiseForce.calls k8 _ _ y384 t350 (wrap64 (1 + (wrap64 (t351 * 100)))) t387 t388 _ ?side1 ?side2 A81.out).mono ?_); (case side1 => repeat (first | exact (Kd.R_reads' HO386.out).2.2 | (with_reducible refine Kd.C_alloc ?_ _) | (with_reducible refine Kd.C_drewN ?_ _) | (with_reducible refine Kd.C_drew ?_))); (case side2 => exact (Kd.R_reads' HO386.out).2.1); rintro e w110 ⟨rfl, hb⟩; have n0_ := Aside0.mk (Kd.R_below (by (with_reducible repeat (first | apply Kd.R_alloc | apply Kd.R_drewN | apply Kd.R_drew)); exact HO386.out) hb); have n1_ := Aside0.mk (blk_below (g := gb377) (o := .cells #[.int .i64 t373, .int .i64 t374, .bool t375] 27 (0, 0)) (by (with_reducible repeat (first | refine blk_drewN ?_ _ | refine blk_drew ?_ | refine blk_alloc ?_ _)); exact BK377.out) hb); have n2_ := Aside0.mk (below_step (by repeat (first | (with_reducible first | exact HB.out | apply below_alloc | apply pw_below_drewN | apply below_drew1 | refine below_set ?_ GE377.out) | exact HB.out)) hb); clear HO386; clear BK377; clear HB; have HO386 := n0_; have BK377 := n1_; have HB := n2_; clear n0_ n1_ n2_; (try clear hb); (try clear hb2); (try clear hk); (try clear hi)) | ((with_reducible refine gate_dst (N := 251) rfl ?_); (try (refine gate_guard (by rfl) ?_; dsimp only)); refine Kd.R_lit k27 _ 27 ?hg (N := 251) ?hd (xs := ([(⟨wrap64 (Int.tdiv x23_8 2), wrap64 (Int.tdiv (wrap64 (x23_8 + 1)) 2), true⟩ : S27)] : List (S27))) (inner := [.int .i64 (wrap64 (Int.tdiv x23_8 2)), .int .i64 (wrap64 (Int.tdiv (wrap64 (x23_8 + 1)) 2)), .bool true]) (ok := fun _ => True) (okp := fun _ => True) ?hr ?hp (fun _ hk => hk) trivial (Below.refl _ _) (Nat.le_refl _) (by simp) ?_; (case hd => rfl); (case hg => rfl); (case hr => first | (go_simp; done) | (go_simp; rfl)); (case hp => exact (Reps.c3 (show Kd.M k27 _ _ _ (⟨wrap64 (Int.tdiv x23_8 2), wrap64 (Int.tdiv (wrap64 (x23_8 + 1)) 2), true⟩ : S27) [.int .i64 (wrap64 (Int.tdiv x23_8 2)), .int .i64 (wrap64 (Int.tdiv (wrap64 (x23_8 + 1)) 2)), .bool true] from (k27_mkM _ _ _ (⟨wrap64 (Int.tdiv x23_8 2), wrap64 (Int.tdiv (wrap64 (x23_8 + 1)) 2), true⟩ : S27) )) (Reps.none _ _))); intro v390 w111 ho112 hb hg_ hnew_; clear hg_ hnew_; (first | rw [← Ny389.out] at ho112 | (simp only [Int.reduceToNat] at ho112; rw [← Ny389.out] at ho112)); have n0_ := Aside0.mk (Kd.R_elder' (by (with_reducible repeat (first | apply Kd.R_alloc | apply Kd.R_drewN | apply Kd.R_drew)); exact HO386.out) (Kd.R_base ho112) hb); have n1_ := Aside0.mk (Kd.R_lower (Kd.R_newB (Kd.R_new' ho112 (Kd.R_lt (by (with_reducible repeat (first | apply Kd.R_alloc | apply Kd.R_drewN | apply Kd.R_drew)); exact HO386.out))) (g := gb377) (o := .cells #[.int .i64 t373, .int .i64 t374, .bool t375] 27 (0, 0)) (by (with_reducible repeat (first | refine blk_drewN ?_ _ | refine blk_drew ?_ | refine blk_alloc ?_ _)); exact BK377.out)) (below_size (by repeat (first | (with_reducible first | exact HB.out | apply below_alloc | apply pw_below_drewN | apply below_drew1 | refine below_set ?_ GE377.out) | exact HB.out)))); have n2_ := Aside0.mk (blk_below (g := gb377) (o := .cells #[.int .i64 t373, .int .i64 t374, .bool t375] 27 (0, 0)) (by (with_reducible repeat (first | refine blk_drewN ?_ _ | refine blk_drew ?_ | refine blk_alloc ?_ _)); exact BK377.out) hb); have n3_ := Aside0.mk (below_step (by repeat (first | (with_reducible first | exact HB.out | apply below_alloc | apply pw_below_drewN | apply below_drew1 | refine below_set ?_ GE377.out) | exact HB.out)) hb); clear HO386; clear BK377; clear HB; have HO386 := n0_; have HO391 := n1_; have BK377 := n2_; have HB := n3_; clear n0_ n1_ n2_ n3_; clear hb ho112; obtain ⟨Ao113, co113, eo113⟩ := Kd.R_slice HO391.out; subst eo113) | (go_at_call 39; (with_reducible refine (spec_RaiseForce.calls k8 _ _ y389 t350 (wrap64 (1 + (wrap64 (t351 * 100)))) t392 t393 _ ?side1 ?side2 A82.out).mono ?_); (case side1 => repeat (first | exact (Kd.R_reads' HO391.out).2.2 | (with_reducible refine Kd.C_alloc ?_ _) | (with_reducible refine Kd.C_drewN ?_ _) | (with_reducible refine Kd.C_drew ?_))); (case side2 => exact (Kd.R_reads' HO391.out).2.1); rintro e w114 ⟨rfl, hb⟩; have n0_ := Aside0.mk (Kd.R_below (by (with_reducible repeat (first | apply Kd.R_alloc | apply Kd.R_drewN | apply Kd.R_drew)); exact HO386.out) hb); have n1_ := Aside0.mk (Kd.R_below (by (with_reducible repeat (first | apply Kd.R_alloc | apply Kd.R_drewN | apply Kd.R_drew)); exact HO391.out) hb); have n2_ := Aside0.mk (blk_below (g := gb377) (o := .cells #[.int .i64 t373, .int .i64 t374, .bool t375] 27 (0, 0)) (by (with_reducible repeat (first | refine blk_drewN ?_ _ | refine blk_drew ?_ | refine blk_alloc ?_ _)); exact BK377.out) hb); have n3_ := Aside0.mk (below_step (by repeat (first | (with_reducible first | exact HB.out | apply below_alloc | apply pw_below_drewN | apply below_drew1 | refine below_set ?_ GE377.out) | exact HB.out)) hb); clear HO386; clear HO391; clear BK377; clear HB; have HO386 := n0_; have HO391 := n1_; have BK377 := n2_; have HB := n3_; clear n0_ n1_ n2_ n3_; (try clear hb); (try clear hb2); (try clear hk); (try clear hi)))
                            first | go_ret | (repeat (go_quiet (first | ((with_reducible refine gate_dst (N := 238) rfl ?_); (try (refine gate_guard (by rfl) ?_; dsimp only)); refine Kd.R_lit k27 _ 27 ?hg (N := 238) ?hd (xs := ([(⟨wrap64 (Int.tdiv (wrap64 (x23_8 + 1)) 2), wrap64 (Int.tdiv x23_8 2), false⟩ : S27)] : List (S27))) (inner := [.int .i64 (wrap64 (Int.tdiv (wrap64 (x23_8 + 1)) 2)), .int .i64 (wrap64 (Int.tdiv x23_8 2)), .bool false]) (ok := fun _ => True) (okp := fun _ => True) ?hr ?hp (fun _ hk => hk) trivial (Below.refl _ _) (Nat.le_refl _) (by simp) ?_; (case hd => rfl); (case hg => rfl); (case hr => first | (go_simp; done) | (go_simp; rfl)); (case hp => exact (Reps.c3 (show Kd.M k27 _ _ _ (⟨wrap64 (Int.tdiv (wrap64 (x23_8 + 1)) 2), wrap64 (Int.tdiv x23_8 2), false⟩ : S27) [.int .i64 (wrap64 (Int.tdiv (wrap64 (x23_8 + 1)) 2)), .int .i64 (wrap64 (Int.tdiv x23_8 2)), .bool false] from (k27_mkM _ _ _ (⟨wrap64 (Int.tdiv (wrap64 (x23_8 + 1)) 2), wrap64 (Int.tdiv x23_8 2), false⟩ : S27) )) (Reps.none _ _))); intro v385 w107 ho108 hb hg_ hnew_; clear hg_ hnew_; (first | rw [← Ny384.out] at ho108 | (simp only [Int.reduceToNat] at ho108; rw [← Ny384.out] at ho108)); have n0_ := Aside0.mk (Kd.R_lower (Kd.R_newB ho108 (g := gb377) (o := .cells #[.int .i64 t373, .int .i64 t374, .bool t375] 27 (0, 0)) (by (with_reducible repeat (first | refine blk_drewN ?_ _ | refine blk_drew ?_ | refine blk_alloc ?_ _)); exact BK377.out)) (below_size (by repeat (first | (with_reducible first | exact HB.out | apply below_alloc | apply pw_below_drewN | apply below_drew1 | refine below_set ?_ GE377.out) | exact HB.out)))); have n1_ := Aside0.mk (blk_below (g := gb377) (o := .cells #[.int .i64 t373, .int .i64 t374, .bool t375] 27 (0, 0)) (by (with_reducible repeat (first | refine blk_drewN ?_ _ | refine blk_drew ?_ | refine blk_alloc ?_ _)); exact BK377.out) hb); have n2_ := Aside0.mk (below_step (by repeat (first | (with_reducible first | exact HB.out | apply below_alloc | apply pw_below_drewN | apply below_drew1 | refine below_set ?_ GE377.out) | exact HB.out)) hb); clear BK377; clear HB; have HO386 := n0_; have BK377 := n1_; have HB := n2_; clear n0_ n1_ n2_; clear hb ho108; obtain ⟨Ao109, co109, eo109⟩ := Kd.R_slice HO386.out; subst eo109) | (go_at_call 39; (with_reducible refine (spec_RaiseForce.calls k8 _ _ y384 t350 (wrap64 (1 + (wrap64 (t351 * 100)))) t387 t388 _ ?side1 ?side2 A81.out).mono ?_); (case side1 => repeat (first | exact (Kd.R_reads' HO386.out).2.2 | (with_reducible refine Kd.C_alloc ?_ _) | (with_reducible refine Kd.C_drewN ?_ _) | (with_reducible refine Kd.C_drew ?_))); (case side2 => exact (Kd.R_reads' HO386.out).2.1); rintro e w110 ⟨rfl, hb⟩; have n0_ := Aside0.mk (Kd.R_below (by (with_reducible repeat (first | apply Kd.R_alloc | apply Kd.R_drewN | apply Kd.R_drew)); exact HO386.out) hb); have n1_ := Aside0.mk (blk_below (g := gb377) (o := .cells #[.int .i64 t373, .int .i64 t374, .bool t375] 27 (0, 0)) (by (with_reducible repeat (first | refine blk_drewN ?_ _ | refine blk_drew ?_ | refine blk_alloc ?_ _)); exact BK377.out) hb); have n2_ := Aside0.mk (below_step (by repeat (first | (with_reducible first | exact HB.out | apply below_alloc | apply pw_below_drewN | apply below_drew1 | refine below_set ?_ GE377.out) | exact HB.out)) hb); clear HO386; clear BK377; clear HB; have HO386 := n0_; have BK377 := n1_; have HB := n2_; clear n0_ n1_ n2_; (try clear hb); (try clear hb2); (try clear hk); (try clear hi)) | ((with_reducible refine gate_dst (N := 251) rfl ?_); (try (refine gate_guard (by rfl) ?_; dsimp only)); refine Kd.R_lit k27 _ 27 ?hg (N := 251) ?hd (xs := ([(⟨wrap64 (Int.tdiv x23_8 2), wrap64 (Int.tdiv (wrap64 (x23_8 + 1)) 2), true⟩ : S27)] : List (S27))) (inner := [.int .i64 (wrap64 (Int.tdiv x23_8 2)), .int .i64 (wrap64 (Int.tdiv (wrap64 (x23_8 + 1)) 2)), .bool true]) (ok := fun _ => True) (okp := fun _ => True) ?hr ?hp (fun _ hk => hk) trivial (Below.refl _ _) (Nat.le_refl _) (by simp) ?_; (case hd => rfl); (case hg => rfl); (case hr => first | (go_simp; done) | (go_simp; rfl)); (case hp => exact (Reps.c3 (show Kd.M k27 _ _ _ (⟨wrap64 (Int.tdiv x23_8 2), wrap64 (Int.tdiv (wrap64 (x23_8 + 1)) 2), true⟩ : S27) [.int .i64 (wrap64 (Int.tdiv x23_8 2)), .int .i64 (wrap64 (Int.tdiv (wrap64 (x23_8 + 1)) 2)), .bool true] from (k27_mkM _ _ _ (⟨wrap64 (Int.tdiv x23_8 2), wrap64 (Int.tdiv (wrap64 (x23_8 + 1)) 2), true⟩ : S27) )) (Reps.none _ _))); intro v390 w111 ho112 hb hg_ hnew_; clear hg_ hnew_; (first | rw [← Ny389.out] at ho112 | (simp only [Int.reduceToNat] at ho112; rw [← Ny389.out] at ho112)); have n0_ := Aside0.mk (Kd.R_elder' (by (with_reducible repeat (first | apply Kd.R_alloc | apply Kd.R_drewN | apply Kd.R_drew)); exact HO386.out) (Kd.R_base ho112) hb); have n1_ := Aside0.mk (Kd.R_lower (Kd.R_newB (Kd.R_new' ho112 (Kd.R_lt (by (with_reducible repeat (first | apply Kd.R_alloc | apply Kd.R_drewN | apply Kd.R_drew)); exact HO386.out))) (g := gb377) (o := .cells #[.int .i64 t373, .int .i64 t374, .bool t375] 27 (0, 0)) (by (with_reducible repeat (first | refine blk_drewN ?_ _ | refine blk_drew ?_ | refine blk_alloc ?_ _)); exact BK377.out)) (below_size (by repeat (first | (with_reducible first | exact HB.out | apply below_alloc | apply pw_below_drewN | apply below_drew1 | refine below_set ?_ GE377.out) | exact HB.out)))); have n2_ := Aside0.mk (blk_below (g := gb377) (o := .cells #[.int .i64 t373, .int .i64 t374, .bool t375] 27 (0, 0)) (by (with_reducible repeat (first | refine blk_drewN ?_ _ | refine blk_drew ?_ | refine blk_alloc ?_ _)); exact BK377.out) hb); have n3_ := Aside0.mk (below_step (by repeat (first | (with_reducible first | exact HB.out | apply below_alloc | apply pw_below_drewN | apply below_drew1 | refine below_set ?_ GE377.out) | exact HB.out)) hb); clear HO386; clear BK377; clear HB; have HO386 := n0_; have HO391 := n1_; have BK377 := n2_; have HB := n3_; clear n0_ n1_ n2_ n3_; clear hb ho112; obtain ⟨Ao113, co113, eo113⟩ := Kd.R_slice HO391.out; subst eo113) | (go_at_call 39; (with_reducible refine (spec_RaiseForce.calls k8 _ _ y389 t350 (wrap64 (1 + (wrap64 (t351 * 100)))) t392 t393 _ ?side1 ?side2 A82.out).mono ?_); (case side1 => repeat (first | exact (Kd.R_reads' HO391.out).2.2 | (with_reducible refine Kd.C_alloc ?_ _) | (with_reducible refine Kd.C_drewN ?_ _) | (with_reducible refine Kd.C_drew ?_))); (case side2 => exact (Kd.R_reads' HO391.out).2.1); rintro e w114 ⟨rfl, hb⟩; have n0_ := Aside0.mk (Kd.R_below (by (with_reducible repeat (first | apply Kd.R_alloc | apply Kd.R_drewN | apply Kd.R_drew)); exact HO386.out) hb); have n1_ := Aside0.mk (Kd.R_below (by (with_reducible repeat (first | apply Kd.R_alloc | apply Kd.R_drewN | apply Kd.R_drew)); exact HO391.out) hb); have n2_ := Aside0.mk (blk_below (g := gb377) (o := .cells #[.int .i64 t373, .int .i64 t374, .bool t375] 27 (0, 0)) (by (with_reducible repeat (first | refine blk_drewN ?_ _ | refine blk_drew ?_ | refine blk_alloc ?_ _)); exact BK377.out) hb); have n3_ := Aside0.mk (below_step (by repeat (first | (with_reducible first | exact HB.out | apply below_alloc | apply pw_below_drewN | apply below_drew1 | refine below_set ?_ GE377.out) | exact HB.out)) hb); clear HO386; clear HO391; clear BK377; clear HB; have HO386 := n0_; have HO391 := n1_; have BK377 := n2_; have HB := n3_; clear n0_ n1_ n2_ n3_; (try clear hb); (try clear hb2); (try clear hk); (try clear hi))); try go_wp2_with (first | ((with_reducible refine gate_dst (N := 238) rfl ?_); (try (refine gate_guard (by rfl) ?_; dsimp only)); refine Kd.R_lit k27 _ 27 ?hg (N := 238) ?hd (xs := ([(⟨wrap64 (Int.tdiv (wrap64 (x23_8 + 1)) 2), wrap64 (Int.tdiv x23_8 2), false⟩ : S27)] : List (S27))) (inner := [.int .i64 (wrap64 (Int.tdiv (wrap64 (x23_8 + 1)) 2)), .int .i64 (wrap64 (Int.tdiv x23_8 2)), .bool false]) (ok := fun _ => True) (okp := fun _ => True) ?hr ?hp (fun _ hk => hk) trivial (Below.refl _ _) (Nat.le_refl _) (by simp) ?_; (case hd => rfl); (case hg => rfl); (case hr => first | (go_simp; done) | (go_simp; rfl)); (case hp => exact (Reps.c3 (show Kd.M k27 _ _ _ (⟨wrap64 (Int.tdiv (wrap64 (x23_8 + 1)) 2), wrap64 (Int.tdiv x23_8 2), false⟩ : S27) [.int .i64 (wrap64 (Int.tdiv (wrap64 (x23_8 + 1)) 2)), .int .i64 (wrap64 (Int.tdiv x23_8 2)), .bool false] from (k27_mkM _ _ _ (⟨wrap64 (Int.tdiv (wrap64 (x23_8 + 1)) 2), wrap64 (Int.tdiv x23_8 2), false⟩ : S27) )) (Reps.none _ _))); intro v385 w107 ho108 hb hg_ hnew_; clear hg_ hnew_; (first | rw [← Ny384.out] at ho108 | (simp only [Int.reduceToNat] at ho108; rw [← Ny384.out] at ho108)); have n0_ := Aside0.mk (Kd.R_lower (Kd.R_newB ho108 (g := gb377) (o := .cells #[.int .i64 t373, .int .i64 t374, .bool t375] 27 (0, 0)) (by (with_reducible repeat (first | refine blk_drewN ?_ _ | refine blk_drew ?_ | refine blk_alloc ?_ _)); exact BK377.out)) (below_size (by repeat (first | (with_reducible first | exact HB.out | apply below_alloc | apply pw_below_drewN | apply below_drew1 | refine below_set ?_ GE377.out) | exact HB.out)))); have n1_ := Aside0.mk (blk_below (g := gb377) (o := .cells #[.int .i64 t373, .int .i64 t374, .bool t375] 27 (0, 0)) (by (with_reducible repeat (first | refine blk_drewN ?_ _ | refine blk_drew ?_ | refine blk_alloc ?_ _)); exact BK377.out) hb); have n2_ := Aside0.mk (below_step (by repeat (first | (with_reducible first | exact HB.out | apply below_alloc | apply pw_below_drewN | apply below_drew1 | refine below_set ?_ GE377.out) | exact HB.out)) hb); clear BK377; clear HB; have HO386 := n0_; have BK377 := n1_; have HB := n2_; clear n0_ n1_ n2_; clear hb ho108; obtain ⟨Ao109, co109, eo109⟩ := Kd.R_slice HO386.out; subst eo109) | (go_at_call 39; (with_reducible refine (spec_RaiseForce.calls k8 _ _ y384 t350 (wrap64 (1 + (wrap64 (t351 * 100)))) t387 t388 _ ?side1 ?side2 A81.out).mono ?_); (case side1 => repeat (first | exact (Kd.R_reads' HO386.out).2.2 | (with_reducible refine Kd.C_alloc ?_ _) | (with_reducible refine Kd.C_drewN ?_ _) | (with_reducible refine Kd.C_drew ?_))); (case side2 => exact (Kd.R_reads' HO386.out).2.1); rintro e w110 ⟨rfl, hb⟩; have n0_ := Aside0.mk (Kd.R_below (by (with_reducible repeat (first | apply Kd.R_alloc | apply Kd.R_drewN | apply Kd.R_drew)); exact HO386.out) hb); have n1_ := Aside0.mk (blk_below (g := gb377) (o := .cells #[.int .i64 t373, .int .i64 t374, .bool t375] 27 (0, 0)) (by (with_reducible repeat (first | refine blk_drewN ?_ _ | refine blk_drew ?_ | refine blk_alloc ?_ _)); exact BK377.out) hb); have n2_ := Aside0.mk (below_step (by repeat (first | (with_reducible first | exact HB.out | apply below_alloc | apply pw_below_drewN | apply below_drew1 | refine below_set ?_ GE377.out) | exact HB.out)) hb); clear HO386; clear BK377; clear HB; have HO386 := n0_; have BK377 := n1_; have HB := n2_; clear n0_ n1_ n2_; (try clear hb); (try clear hb2); (try clear hk); (try clear hi)) | ((with_reducible refine gate_dst (N := 251) rfl ?_); (try (refine gate_guard (by rfl) ?_; dsimp only)); refine Kd.R_lit k27 _ 27 ?hg (N := 251) ?hd (xs := ([(⟨wrap64 (Int.tdiv x23_8 2), wrap64 (Int.tdiv (wrap64 (x23_8 + 1)) 2), true⟩ : S27)] : List (S27))) (inner := [.int .i64 (wrap64 (Int.tdiv x23_8 2)), .int .i64 (wrap64 (Int.tdiv (wrap64 (x23_8 + 1)) 2)), .bool true]) (ok := fun _ => True) (okp := fun _ => True) ?hr ?hp (fun _ hk => hk) trivial (Below.refl _ _) (Nat.le_refl _) (by simp) ?_; (case hd => rfl); (case hg => rfl); (case hr => first | (go_simp; done) | (go_simp; rfl)); (case hp => exact (Reps.c3 (show Kd.M k27 _ _ _ (⟨wrap64 (Int.tdiv x23_8 2), wrap64 (Int.tdiv (wrap64 (x23_8 + 1)) 2), true⟩ : S27) [.int .i64 (wrap64 (Int.tdiv x23_8 2)), .int .i64 (wrap64 (Int.tdiv (wrap64 (x23_8 + 1)) 2)), .bool true] from (k27_mkM _ _ _ (⟨wrap64 (Int.tdiv x23_8 2), wrap64 (Int.tdiv (wrap64 (x23_8 + 1)) 2), true⟩ : S27) )) (Reps.none _ _))); intro v390 w111 ho112 hb hg_ hnew_; clear hg_ hnew_; (first | rw [← Ny389.out] at ho112 | (simp only [Int.reduceToNat] at ho112; rw [← Ny389.out] at ho112)); have n0_ := Aside0.mk (Kd.R_elder' (by (with_reducible repeat (first | apply Kd.R_alloc | apply Kd.R_drewN | apply Kd.R_drew)); exact HO386.out) (Kd.R_base ho112) hb); have n1_ := Aside0.mk (Kd.R_lower (Kd.R_newB (Kd.R_new' ho112 (Kd.R_lt (by (with_reducible repeat (first | apply Kd.R_alloc | apply Kd.R_drewN | apply Kd.R_drew)); exact HO386.out))) (g := gb377) (o := .cells #[.int .i64 t373, .int .i64 t374, .bool t375] 27 (0, 0)) (by (with_reducible repeat (first | refine blk_drewN ?_ _ | refine blk_drew ?_ | refine blk_alloc ?_ _)); exact BK377.out)) (below_size (by repeat (first | (with_reducible first | exact HB.out | apply below_alloc | apply pw_below_drewN | apply below_drew1 | refine below_set ?_ GE377.out) | exact HB.out)))); have n2_ := Aside0.mk (blk_below (g := gb377) (o := .cells #[.int .i64 t373, .int .i64 t374, .bool t375] 27 (0, 0)) (by (with_reducible repeat (first | refine blk_drewN ?_ _ | refine blk_drew ?_ | refine blk_alloc ?_ _)); exact BK377.out) hb); have n3_ := Aside0.mk (below_step (by repeat (first | (with_reducible first | exact HB.out | apply below_alloc | apply pw_below_drewN | apply below_drew1 | refine below_set ?_ GE377.out) | exact HB.out)) hb); clear HO386; clear BK377; clear HB; have HO386 := n0_; have HO391 := n1_; have BK377 := n2_; have HB := n3_; clear n0_ n1_ n2_ n3_; clear hb ho112; obtain ⟨Ao113, co113, eo113⟩ := Kd.R_slice HO391.out; subst eo113) | (go_at_call 39; (with_reducible refine (spec_RaiseForce.calls k8 _ _ y389 t350 (wrap64 (1 + (wrap64 (t351 * 100)))) t392 t393 _ ?side1 ?side2 A82.out).mono ?_); (case side1 => repeat (first | exact (Kd.R_reads' HO391.out).2.2 | (with_reducible refine Kd.C_alloc ?_ _) | (with_reducible refine Kd.C_drewN ?_ _) | (with_reducible refine Kd.C_drew ?_))); (case side2 => exact (Kd.R_reads' HO391.out).2.1); rintro e w114 ⟨rfl, hb⟩; have n0_ := Aside0.mk (Kd.R_below (by (with_reducible repeat (first | apply Kd.R_alloc | apply Kd.R_drewN | apply Kd.R_drew)); exact HO386.out) hb); have n1_ := Aside0.mk (Kd.R_below (by (with_reducible repeat (first | apply Kd.R_alloc | apply Kd.R_drewN | apply Kd.R_drew)); exact HO391.out) hb); have n2_ := Aside0.mk (blk_below (g := gb377) (o := .cells #[.int .i64 t373, .int .i64 t374, .bool t375] 27 (0, 0)) (by (with_reducible repeat (first | refine blk_drewN ?_ _ | refine blk_drew ?_ | refine blk_alloc ?_ _)); exact BK377.out) hb); have n3_ := Aside0.mk (below_step (by repeat (first | (with_reducible first | exact HB.out | apply below_alloc | apply pw_below_drewN | apply below_drew1 | refine below_set ?_ GE377.out) | exact HB.out)) hb); clear HO386; clear HO391; clear BK377; clear HB; have HO386 := n0_; have HO391 := n1_; have BK377 := n2_; have HB := n3_; clear n0_ n1_ n2_ n3_; (try clear hb); (try clear hb2); (try clear hk); (try clear hi)))); go_ret)
                            exact ⟨by first | rfl | (simp [errW_none, errW_some] <;> rfl) | (simp only [← hji60]; first | rfl | (simp [errW_none, errW_some] <;> rfl)) | (simp [*, errW_none, errW_some] <;> rfl), by repeat (first | (with_reducible first | exact HB.out | apply below_alloc | apply pw_below_drewN | apply below_drew1 | refine below_set ?_ GE377.out) | exact HB.out)⟩
                          ·rw [if_neg c83] at H
                           have c83b0 : (t388 == 0) = false := beq_eq_false_iff_ne.mpr c83
                           have c83b1 : (t388 != 0) = true := bne_iff_ne.mpr c83
                           obtain rfl := Option.some.inj H
                           have hcz115_0 : wr.cell? ⟨gb377, 0, none⟩ = some (.int .i64 t373) := (blk_cell BK377.out 0).trans rfl
                           have hcz115_1 : wr.cell? ⟨gb377, 1, none⟩ = some (.int .i64 t374) := (blk_cell BK377.out 1).trans rfl
                           have hcz115_2 : wr.cell? ⟨gb377, 2, none⟩ = some (.bool t375) := (blk_cell BK377.out 2).trans rfl
                           have hfz115_0 := blk_frozen BK377.out 0
                           have hfz115_1 := blk_frozen BK377.out 1
                           have hfz115_2 := blk_frozen BK377.out 2
                           go_wp2_with (first | ((with_reducible refine gate_dst (N := 238) rfl ?_); (try (refine gate_guard (by rfl) ?_; dsimp only)); refine Kd.R_lit k27 _ 27 ?hg (N := 238) ?hd (xs := ([(⟨wrap64 (Int.tdiv (wrap64 (x23_8 + 1)) 2), wrap64 (Int.tdiv x23_8 2), false⟩ : S27)] : List (S27))) (inner := [.int .i64 (wrap64 (Int.tdiv (wrap64 (x23_8 + 1)) 2)), .int .i64 (wrap64 (Int.tdiv x23_8 2)), .bool false]) (ok := fun _ => True) (okp := fun _ => True) ?hr ?hp (fun _ hk => hk) trivial (Below.refl _ _) (Nat.le_refl _) (by simp) ?_; (case hd => rfl); (case hg => rfl); (case hr => first | (go_simp; done) | (go_simp; rfl)); (case hp => exact (Reps.c3 (show Kd.M k27 _ _ _ (⟨wrap64 (Int.tdiv (wrap64 (x23_8 + 1)) 2), wrap64 (Int.tdiv x23_8 2), false⟩ : S27) [.int .i64 (wrap64 (Int.tdiv (wrap64 (x23_8 + 1)) 2)), .int .i64 (wrap64 (Int.tdiv x23_8 2)), .bool false] from (k27_mkM _ _ _ (⟨wrap64 (Int.tdiv (wrap64 (x23_8 + 1)) 2), wrap64 (Int.tdiv x23_8 2), false⟩ : S27) )) (Reps.none _ _))); intro v385 w116 ho117 hb hg_ hnew_; clear hg_ hnew_; (first | rw [← Ny384.out] at ho117 | (simp only [Int.reduceToNat] at ho117; rw [← Ny384.out] at ho117)); have n0_ := Aside0.mk (Kd.R_lower (Kd.R_newB ho117 (g := gb377) (o := .cells #[.int .i64 t373, .int .i64 t374, .bool t375] 27 (0, 0)) (by (with_reducible repeat (first | refine blk_drewN ?_ _ | refine blk_drew ?_ | refine blk_alloc ?_ _)); exact BK377.out)) (below_size (by repeat (first | (with_reducible first | exact HB.out | apply below_alloc | apply pw_below_drewN | apply below_drew1 | refine below_set ?_ GE377.out) | exact HB.out)))); have n1_ := Aside0.mk (blk_below (g := gb377) (o := .cells #[.int .i64 t373, .int .i64 t374, .bool t375] 27 (0, 0)) (by (with_reducible repeat (first | refine blk_drewN ?_ _ | refine blk_drew ?_ | refine blk_alloc ?_ _)); exact BK377.out) hb); have n2_ := Aside0.mk (below_step (by repeat (first | (with_reducible first | exact HB.out | apply below_alloc | apply pw_below_drewN | apply below_drew1 | refine below_set ?_ GE377.out) | exact HB.out)) hb); clear BK377; clear HB; have HO386 := n0_; have BK377 := n1_; have HB := n2_; clear n0_ n1_ n2_; clear hb ho117; obtain ⟨Ao118, co118, eo118⟩ := Kd.R_slice HO386.out; subst eo118) | (go_at_call 39; (with_reducible refine (spec_RaiseForce.calls k8 _ _ y384 t350 (wrap64 (1 + (wrap64 (t351 * 100)))) t387 t388 _ ?side1 ?side2 A81.out).mono ?_); (case side1 => repeat (first | exact (Kd.R_reads' HO386.out).2.2 | (with_reducible refine Kd.C_alloc ?_ _) | (with_reducible refine Kd.C_drewN ?_ _) | (with_reducible refine Kd.C_drew ?_))); (case side2 => exact (Kd.R_reads' HO386.out).2.1); rintro e w119 ⟨rfl, hb⟩; have n0_ := Aside0.mk (Kd.R_below (by (with_reducible repeat (first | apply Kd.R_alloc | apply Kd.R_drewN | apply Kd.R_drew)); exact HO386.out) hb); have n1_ := Aside0.mk (blk_below (g := gb377) (o := .cells #[.int .i64 t373, .int .i64 t374, .bool t375] 27 (0, 0)) (by (with_reducible repeat (first | refine blk_drewN ?_ _ | refine blk_drew ?_ | refine blk_alloc ?_ _)); exact BK377.out) hb); have n2_ := Aside0.mk (below_step (by repeat (first | (with_reducible first | exact HB.out | apply below_alloc | apply pw_below_drewN | apply below_drew1 | refine below_set ?_ GE377.out) | exact HB.out)) hb); clear HO386; clear BK377; clear HB; have HO386 := n0_; have BK377 := n1_; have HB := n2_; clear n0_ n1_ n2_; (try clear hb); (try clear hb2); (try clear hk); (try clear hi)) | ((with_reducible refine gate_dst (N := 251) rfl ?_); (try (refine gate_guard (by rfl) ?_; dsimp only)); refine Kd.R_lit k27 _ 27 ?hg (N := 251) ?hd (xs := ([(⟨wrap64 (Int.tdiv x23_8 2), wrap64 (Int.tdiv (wrap64 (x23_8 + 1)) 2), true⟩ : S27)] : List (S27))) (inner := [.int .i64 (wrap64 (Int.tdiv x23_8 2)), .int .i64 (wrap64 (Int.tdiv (wrap64 (x23_8 + 1)) 2)), .bool true]) (ok := fun _ => True) (okp := fun _ => True) ?hr ?hp (fun _ hk => hk) trivial (Below.refl _ _) (Nat.le_refl _) (by simp) ?_; (case hd => rfl); (case hg => rfl); (case hr => first | (go_simp; done) | (go_simp; rfl)); (case hp => exact (Reps.c3 (show Kd.M k27 _ _ _ (⟨wrap64 (Int.tdiv x23_8 2), wrap64 (Int.tdiv (wrap64 (x23_8 + 1)) 2), true⟩ : S27) [.int .i64 (wrap64 (Int.tdiv x23_8 2)), .int .i64 (wrap64 (Int.tdiv (wrap64 (x23_8 + 1)) 2)), .bool true] from (k27_mkM _ _ _ (⟨wrap64 (Int.tdiv x23_8 2), wrap64 (Int.tdiv (wrap64 (x23_8 + 1)) 2), true⟩ : S27) )) (Reps.none _ _))); intro v390 w120 ho121 hb hg_ hnew_; clear hg_ hnew_; (first | rw [← Ny389.out] at ho121 | (simp only [Int.reduceToNat] at ho121; rw [← Ny389.out] at ho121)); have n0_ := Aside0.mk (Kd.R_elder' (by (with_reducible repeat (first | apply Kd.R_alloc | apply Kd.R_drewN | apply Kd.R_drew)); exact HO386.out) (Kd.R_base ho121) hb); have n1_ := Aside0.mk (Kd.R_lower (Kd.R_newB (Kd.R_new' ho121 (Kd.R_lt (by (with_reducible repeat (first | apply Kd.R_alloc | apply Kd.R_drewN | apply Kd.R_drew)); exact HO386.out))) (g := gb377) (o := .cells #[.int .i64 t373, .int .i64 t374, .bool t375] 27 (0, 0)) (by (with_reducible repeat (first | refine blk_drewN ?_ _ | refine blk_drew ?_ | refine blk_alloc ?_ _)); exact BK377.out)) (below_size (by repeat (first | (with_reducible first | exact HB.out | apply below_alloc | apply pw_below_drewN | apply below_drew1 | refine below_set ?_ GE377.out) | exact HB.out)))); have n2_ := Aside0.mk (blk_below (g := gb377) (o := .cells #[.int .i64 t373, .int .i64 t374, .bool t375] 27 (0, 0)) (by (with_reducible repeat (first | refine blk_drewN ?_ _ | refine blk_drew ?_ | refine blk_alloc ?_ _)); exact BK377.out) hb); have n3_ := Aside0.mk (below_step (by repeat (first | (with_reducible first | exact HB.out | apply below_alloc | apply pw_below_drewN | apply below_drew1 | refine below_set ?_ GE377.out) | exact HB.out)) hb); clear HO386; clear BK377; clear HB; have HO386 := n0_; have HO391 := n1_; have BK377 := n2_; have HB := n3_; clear n0_ n1_ n2_ n3_; clear hb ho121; obtain ⟨Ao122, co122, eo122⟩ := Kd.R_slice HO391.out; subst eo122) | (go_at_call 39; (with_reducible refine (spec_RaiseForce.calls k8 _ _ y389 t350 (wrap64 (1 + (wrap64 (t351 * 100)))) t392 t393 _ ?side1 ?side2 A82.out).mono ?_); (case side1 => repeat (first | exact (Kd.R_reads' HO391.out).2.2 | (with_reducible refine Kd.C_alloc ?_ _) | (with_reducible refine Kd.C_drewN ?_ _) | (with_reducible refine Kd.C_drew ?_))); (case side2 => exact (Kd.R_reads' HO391.out).2.1); rintro e w123 ⟨rfl, hb⟩; have n0_ := Aside0.mk (Kd.R_below (by (with_reducible repeat (first | apply Kd.R_alloc | apply Kd.R_drewN | apply Kd.R_drew)); exact HO386.out) hb); have n1_ := Aside0.mk (Kd.R_below (by (with_reducible repeat (first | apply Kd.R_alloc | apply Kd.R_drewN | apply Kd.R_drew)); exact HO391.out) hb); have n2_ := Aside0.mk (blk_below (g := gb377) (o := .cells #[.int .i64 t373, .int .i64 t374, .bool t375] 27 (0, 0)) (by (with_reducible repeat (first | refine blk_drewN ?_ _ | refine blk_drew ?_ | refine blk_alloc ?_ _)); exact BK377.out) hb); have n3_ := Aside0.mk (below_step (by repeat (first | (with_reducible first | exact HB.out | apply below_alloc | apply pw_below_drewN | apply below_drew1 | refine below_set ?_ GE377.out) | exact HB.out)) hb); clear HO386; clear HO391; clear BK377; clear HB; have HO386 := n0_; have HO391 := n1_; have BK377 := n2_; have HB := n3_; clear n0_ n1_ n2_ n3_; (try clear hb); (try clear hb2); (try clear hk); (try clear hi)))
                           first | go_ret | (repeat (go_quiet (first | ((with_reducible refine gate_dst (N := 238) rfl ?_); (try (refine gate_guard (by rfl) ?_; dsimp only)); refine Kd.R_lit k27 _ 27 ?hg (N := 238) ?hd (xs := ([(⟨wrap64 (Int.tdiv (wrap64 (x23_8 + 1)) 2), wrap64 (Int.tdiv x23_8 2), false⟩ : S27)] : List (S27))) (inner := [.int .i64 (wrap64 (Int.tdiv (wrap64 (x23_8 + 1)) 2)), .int .i64 (wrap64 (Int.tdiv x23_8 2)), .bool false]) (ok := fun _ => True) (okp := fun _ => True) ?hr ?hp (fun _ hk => hk) trivial (Below.refl _ _) (Nat.le_refl _) (by simp) ?_; (case hd => rfl); (case hg => rfl); (case hr => first | (go_simp; done) | (go_simp; rfl)); (case hp => exact (Reps.c3 (show Kd.M k27 _ _ _ (⟨wrap64 (Int.tdiv (wrap64 (x23_8 + 1)) 2), wrap64 (Int.tdiv x23_8 2), false⟩ : S27) [.int .i64 (wrap64 (Int.tdiv (wrap64 (x23_8 + 1)) 2)), .int .i64 (wrap64 (Int.tdiv x23_8 2)), .bool false] from (k27_mkM _ _ _ (⟨wrap64 (Int.tdiv (wrap64 (x23_8 + 1)) 2), wrap64 (Int.tdiv x23_8 2), false⟩ : S27) )) (Reps.none _ _))); intro v385 w116 ho117 hb hg_ hnew_; clear hg_ hnew_; (first | rw [← Ny384.out] at ho117 | (simp only [Int.reduceToNat] at ho117; rw [← Ny384.out] at ho117)); have n0_ := Aside0.mk (Kd.R_lower (Kd.R_newB ho117 (g := gb377) (o := .cells #[.int .i64 t373, .int .i64 t374, .bool t375] 27 (0, 0)) (by (with_reducible repeat (first | refine blk_drewN ?_ _ | refine blk_drew ?_ | refine blk_alloc ?_ _)); exact BK377.out)) (below_size (by repeat (first | (with_reducible first | exact HB.out | apply below_alloc | apply pw_below_drewN | apply below_drew1 | refine below_set ?_ GE377.out) | exact HB.out)))); have n1_ := Aside0.mk (blk_below (g := gb377) (o := .cells #[.int .i64 t373, .int .i64 t374, .bool t375] 27 (0, 0)) (by (with_reducible repeat (first | refine blk_drewN ?_ _ | refine blk_drew ?_ | refine blk_alloc ?_ _)); exact BK377.out) hb); have n2_ := Aside0.mk (below_step (by repeat (first | (with_reducible first | exact HB.out | apply below_alloc | apply pw_below_drewN | apply below_drew1 | refine below_set ?_ GE377.out) | exact HB.out)) hb); clear BK377; clear HB; have HO386 := n0_; have BK377 := n1_; have HB := n2_; clear n0_ n1_ n2_; clear hb ho117; obtain ⟨Ao118, co118, eo118⟩ := Kd.R_slice HO386.out; subst eo118) | (go_at_call 39; (with_reducible refine (spec_RaiseForce.calls k8 _ _ y384 t350 (wrap64 (1 + (wrap64 (t351 * 100)))) t387 t388 _ ?side1 ?side2 A81.out).mono ?_); (case side1 => repeat (first | exact (Kd.R_reads' HO386.out).2.2 | (with_reducible refine Kd.C_alloc ?_ _) | (with_reducible refine Kd.C_drewN ?_ _) | (with_reducible refine Kd.C_drew ?_))); (case side2 => exact (Kd.R_reads' HO386.out).2.1); rintro e w119 ⟨rfl, hb⟩; have n0_ := Aside0.mk (Kd.R_below (by (with_reducible repeat (first | apply Kd.R_alloc | apply Kd.R_drewN | apply Kd.R_drew)); exact HO386.out) hb); have n1_ := Aside0.mk (blk_below (g := gb377) (o := .cells #[.int .i64 t373, .int .i64 t374, .bool t375] 27 (0, 0)) (by (with_reducible repeat (first | refine blk_drewN ?_ _ | refine blk_drew ?_ | refine blk_alloc ?_ _)); exact BK377.out) hb); have n2_ := Aside0.mk (below_step (by repeat (first | (with_reducible first | exact HB.out | apply below_alloc | apply pw_below_drewN | apply below_drew1 | refine below_set ?_ GE377.out) | exact HB.out)) hb); clear HO386; clear BK377; clear HB; have HO386 := n0_; have BK377 := n1_; have HB := n2_; clear n0_ n1_ n2_; (try clear hb); (try clear hb2); (try clear hk); (try clear hi)) | ((with_reducible refine gate_dst (N := 251) rfl ?_); (try (refine gate_guard (by rfl) ?_; dsimp only)); refine Kd.R_lit k27 _ 27 ?hg (N := 251) ?hd (xs := ([(⟨wrap64 (Int.tdiv x23_8 2), wrap64 (Int.tdiv (wrap64 (x23_8 + 1)) 2), true⟩ : S27)] : List (S27))) (inner := [.int .i64 (wrap64 (Int.tdiv x23_8 2)), .int .i64 (wrap64 (Int.tdiv (wrap64 (x23_8 + 1)) 2)), .bool true]) (ok := fun _ => True) (okp := fun _ => True) ?hr ?hp (fun _ hk => hk) trivial (Below.refl _ _) (Nat.le_refl _) (by simp) ?_; (case hd => rfl); (case hg => rfl); (case hr => first | (go_simp; done) | (go_simp; rfl)); (case hp => exact (Reps.c3 (show Kd.M k27 _ _ _ (⟨wrap64 (Int.tdiv x23_8 2), wrap64 (Int.tdiv (wrap64 (x23_8 + 1)) 2), true⟩ : S27) [.int .i64 (wrap64 (Int.tdiv x23_8 2)), .int .i64 (wrap64 (Int.tdiv (wrap64 (x23_8 + 1)) 2)), .bool true] from (k27_mkM _ _ _ (⟨wrap64 (Int.tdiv x23_8 2), wrap64 (Int.tdiv (wrap64 (x23_8 + 1)) 2), true⟩ : S27) )) (Reps.none _ _))); intro v390 w120 ho121 hb hg_ hnew_; clear hg_ hnew_; (first | rw [← Ny389.out] at ho121 | (simp only [Int.reduceToNat] at ho121; rw [← Ny389.out] at ho121)); have n0_ := Aside0.mk (Kd.R_elder' (by (with_reducible repeat (first | apply Kd.R_alloc | apply Kd.R_drewN | apply Kd.R_drew)); exact HO386.out) (Kd.R_base ho121) hb); have n1_ := Aside0.mk (Kd.R_lower (Kd.R_newB (Kd.R_new' ho121 (Kd.R_lt (by (with_reducible repeat (first | apply Kd.R_alloc | apply Kd.R_drewN | apply Kd.R_drew)); exact HO386.out))) (g := gb377) (o := .cells #[.int .i64 t373, .int .i64 t374, .bool t375] 27 (0, 0)) (by (with_reducible repeat (first | refine blk_drewN ?_ _ | refine blk_drew ?_ | refine blk_alloc ?_ _)); exact BK377.out)) (below_size (by repeat (first | (with_reducible first | exact HB.out | apply below_alloc | apply pw_below_drewN | apply below_drew1 | refine below_set ?_ GE377.out) | exact HB.out)))); have n2_ := Aside0.mk (blk_below (g := gb377) (o := .cells #[.int .i64 t373, .int .i64 t374, .bool t375] 27 (0, 0)) (by (with_reducible repeat (first | refine blk_drewN ?_ _ | refine blk_drew ?_ | refine blk_alloc ?_ _)); exact BK377.out) hb); have n3_ := Aside0.mk (below_step (by repeat (first | (with_reducible first | exact HB.out | apply below_alloc | apply pw_below_drewN | apply below_drew1 | refine below_set ?_ GE377.out) | exact HB.out)) hb); clear HO386; clear BK377; clear HB; have HO386 := n0_; have HO391 := n1_; have BK377 := n2_; have HB := n3_; clear n0_ n1_ n2_ n3_; clear hb ho121; obtain ⟨Ao122, co122, eo122⟩ := Kd.R_slice HO391.out; subst eo122) | (go_at_call 39; (with_reducible refine (spec_RaiseForce.calls k8 _ _ y389 t350 (wrap64 (1 + (wrap64 (t351 * 100)))) t392 t393 _ ?side1 ?side2 A82.out).mono ?_); (case side1 => repeat (first | exact (Kd.R_reads' HO391.out).2.2 | (with_reducible refine Kd.C_alloc ?_ _) | (with_reducible refine Kd.C_drewN ?_ _) | (with_reducible refine Kd.C_drew ?_))); (case side2 => exact (Kd.R_reads' HO391.out).2.1); rintro e w123 ⟨rfl, hb⟩; have n0_ := Aside0.mk (Kd.R_below (by (with_reducible repeat (first | apply Kd.R_alloc | apply Kd.R_drewN | apply Kd.R_drew)); exact HO386.out) hb); have n1_ := Aside0.mk (Kd.R_below (by (with_reducible repeat (first | apply Kd.R_alloc | apply Kd.R_drewN | apply Kd.R_drew)); exact HO391.out) hb); have n2_ := Aside0.mk (blk_below (g := gb377) (o := .cells #[.int .i64 t373, .int .i64 t374, .bool t375] 27 (0, 0)) (by (with_reducible repeat (first | refine blk_drewN ?_ _ | refine blk_drew ?_ | refine blk_alloc ?_ _)); exact BK377.out) hb); have n3_ := Aside0.mk (below_step (by repeat (first | (with_reducible first | exact HB.out | apply below_alloc | apply pw_below_drewN | apply below_drew1 | refine below_set ?_ GE377.out) | exact HB.out)) hb); clear HO386; clear HO391; clear BK377; clear HB; have HO386 := n0_; have HO391 := n1_; have BK377 := n2_; have HB := n3_; clear n0_ n1_ n2_ n3_; (try clear hb); (try clear hb2); (try clear hk); (try clear hi))); try go_wp2_with (first | ((with_reducible refine gate_dst (N := 238) rfl ?_); (try (refine gate_guard (by rfl) ?_; dsimp only)); refine Kd.R_lit k27 _ 27 ?hg (N := 238) ?hd (xs := ([(⟨wrap64 (Int.tdiv (wrap64 (x23_8 + 1)) 2), wrap64 (Int.tdiv x23_8 2), false⟩ : S27)] : List (S27))) (inner := [.int .i64 (wrap64 (Int.tdiv (wrap64 (x23_8 + 1)) 2)), .int .i64 (wrap64 (Int.tdiv x23_8 2)), .bool false]) (ok := fun _ => True) (okp := fun _ => True) ?hr ?hp (fun _ hk => hk) trivial (Below.refl _ _) (Nat.le_refl _) (by simp) ?_; (case hd => rfl); (case hg => rfl); (case hr => first | (go_simp; done) | (go_simp; rfl)); (case hp => exact (Reps.c3 (show Kd.M k27 _ _ _ (⟨wrap64 (Int.tdiv (wrap64 (x23_8 + 1)) 2), wrap64 (Int.tdiv x23_8 2), false⟩ : S27) [.int .i64 (wrap64 (Int.tdiv (wrap64 (x23_8 + 1)) 2)), .int .i64 (wrap64 (Int.tdiv x23_8 2)), .bool false] from (k27_mkM _ _ _ (⟨wrap64 (Int.tdiv (wrap64 (x23_8 + 1)) 2), wrap64 (Int.tdiv x23_8 2), false⟩ : S27) )) (Reps.none _ _))); intro v385 w116 ho117 hb hg_ hnew_; clear hg_ hnew_; (first | rw [← Ny384.out] at ho117 | (simp only [Int.reduceToNat] at ho117; rw [← Ny384.out] at ho117)); have n0_ := Aside0.mk (Kd.R_lower (Kd.R_newB ho117 (g := gb377) (o := .cells #[.int .i64 t373, .int .i64 t374, .bool t375] 27 (0, 0)) (by (with_reducible repeat (first | refine blk_drewN ?_ _ | refine blk_drew ?_ | refine blk_alloc ?_ _)); exact BK377.out)) (below_size (by repeat (first | (with_reducible first | exact HB.out | apply below_alloc | apply pw_below_drewN | apply below_drew1 | refine below_set ?_ GE377.out) | exact HB.out)))); have n1_ := Aside0.mk (blk_below (g := gb377) (o := .cells #[.int .i64 t373, .int .i64 t374, .bool t375] 27 (0, 0)) (by (with_reducible repeat (first | refine blk_drewN ?_ _ | refine blk_drew ?_ | refine blk_alloc ?_ _)); exact BK377.out) hb); have n2_ := Aside0.mk (below_step (by repeat (first | (with_reducible first | exact HB.out | apply below_alloc | apply pw_below_drewN | apply below_drew1 | refine below_set ?_ GE377.out) | exact HB.out)) hb); clear BK377; clear HB; have HO386 := n0_; have BK377 := n1_; have HB := n2_; clear n0_ n1_ n2_; clear hb ho117; obtain ⟨Ao118, co118, eo118⟩ := Kd.R_slice HO386.out; subst eo118) | (go_at_call 39; (with_reducible refine (spec_RaiseForce.calls k8 _ _ y384 t350 (wrap64 (1 + (wrap64 (t351 * 100)))) t387 t388 _ ?side1 ?side2 A81.out).mono ?_); (case side1 => repeat (first | exact (Kd.R_reads' HO386.out).2.2 | (with_reducible refine Kd.C_alloc ?_ _) | (with_reducible refine Kd.C_drewN ?_ _) | (with_reducible refine Kd.C_drew ?_))); (case side2 => exact (Kd.R_reads' HO386.out).2.1); rintro e w119 ⟨rfl, hb⟩; have n0_ := Aside0.mk (Kd.R_below (by (with_reducible repeat (first | apply Kd.R_alloc | apply Kd.R_drewN | apply Kd.R_drew)); exact HO386.out) hb); have n1_ := Aside0.mk (blk_below (g := gb377) (o := .cells #[.int .i64 t373, .int .i64 t374, .bool t375] 27 (0, 0)) (by (with_reducible repeat (first | refine blk_drewN ?_ _ | refine blk_drew ?_ | refine blk_alloc ?_ _)); exact BK377.out) hb); have n2_ := Aside0.mk (below_step (by repeat (first | (with_reducible first | exact HB.out | apply below_alloc | apply pw_below_drewN | apply below_drew1 | refine below_set ?_ GE377.out) | exact HB.out)) hb); clear HO386; clear BK377; clear HB; have HO386 := n0_; have BK377 := n1_; have HB := n2_; clear n0_ n1_ n2_; (try clear hb); (try clear hb2); (try clear hk); (try clear hi)) | ((with_reducible refine gate_dst (N := 251) rfl ?_); (try (refine gate_guard (by rfl) ?_; dsimp only)); refine Kd.R_lit k27 _ 27 ?hg (N := 251) ?hd (xs := ([(⟨wrap64 (Int.tdiv x23_8 2), wrap64 (Int.tdiv (wrap64 (x23_8 + 1)) 2), true⟩ : S27)] : List (S27))) (inner := [.int .i64 (wrap64 (Int.tdiv x23_8 2)), .int .i64 (wrap64 (Int.tdiv (wrap64 (x23_8 + 1)) 2)), .bool true]) (ok := fun _ => True) (okp := fun _ => True) ?hr ?hp (fun _ hk => hk) trivial (Below.refl _ _) (Nat.le_refl _) (by simp) ?_; (case hd => rfl); (case hg => rfl); (case hr => first | (go_simp; done) | (go_simp; rfl)); (case hp => exact (Reps.c3 (show Kd.M k27 _ _ _ (⟨wrap64 (Int.tdiv x23_8 2), wrap64 (Int.tdiv (wrap64 (x23_8 + 1)) 2), true⟩ : S27) [.int .i64 (wrap64 (Int.tdiv x23_8 2)), .int .i64 (wrap64 (Int.tdiv (wrap64 (x23_8 + 1)) 2)), .bool true] from (k27_mkM _ _ _ (⟨wrap64 (Int.tdiv x23_8 2), wrap64 (Int.tdiv (wrap64 (x23_8 + 1)) 2), true⟩ : S27) )) (Reps.none _ _))); intro v390 w120 ho121 hb hg_ hnew_; clear hg_ hnew_; (first | rw [← Ny389.out] at ho121 | (simp only [Int.reduceToNat] at ho121; rw [← Ny389.out] at ho121)); have n0_ := Aside0.mk (Kd.R_elder' (by (with_reducible repeat (first | apply Kd.R_alloc | apply Kd.R_drewN | apply Kd.R_drew)); exact HO386.out) (Kd.R_base ho121) hb); have n1_ := Aside0.mk (Kd.R_lower (Kd.R_newB (Kd.R_new' ho121 (Kd.R_lt (by (with_reducible repeat (first | apply Kd.R_alloc | apply Kd.R_drewN | apply Kd.R_drew)); exact HO386.out))) (g := gb377) (o := .cells #[.int .i64 t373, .int .i64 t374, .bool t375] 27 (0, 0)) (by (with_reducible repeat (first | refine blk_drewN ?_ _ | refine blk_drew ?_ | refine blk_alloc ?_ _)); exact BK377.out)) (below_size (by repeat (first | (with_reducible first | exact HB.out | apply below_alloc | apply pw_below_drewN | apply below_drew1 | refine below_set ?_ GE377.out) | exact HB.out)))); have n2_ := Aside0.mk (blk_below (g := gb377) (o := .cells #[.int .i64 t373, .int .i64 t374, .bool t375] 27 (0, 0)) (by (with_reducible repeat (first | refine blk_drewN ?_ _ | refine blk_drew ?_ | refine blk_alloc ?_ _)); exact BK377.out) hb); have n3_ := Aside0.mk (below_step (by repeat (first | (with_reducible first | exact HB.out | apply below_alloc | apply pw_below_drewN | apply below_drew1 | refine below_set ?_ GE377.out) | exact HB.out)) hb); clear HO386; clear BK377; clear HB; have HO386 := n0_; have HO391 := n1_; have BK377 := n2_; have HB := n3_; clear n0_ n1_ n2_ n3_; clear hb ho121; obtain ⟨Ao122, co122, eo122⟩ := Kd.R_slice HO391.out; subst eo122) | (go_at_call 39; (with_reducible refine (spec_RaiseForce.calls k8 _ _ y389 t350 (wrap64 (1 + (wrap64 (t351 * 100)))) t392 t393 _ ?side1 ?side2 A82.out).mono ?_); (case side1 => repeat (first | exact (Kd.R_reads' HO391.out).2.2 | (with_reducible refine Kd.C_alloc ?_ _) | (with_reducible refine Kd.C_drewN ?_ _) | (with_reducible refine Kd.C_drew ?_))); (case side2 => exact (Kd.R_reads' HO391.out).2.1); rintro e w123 ⟨rfl, hb⟩; have n0_ := Aside0.mk (Kd.R_below (by (with_reducible repeat (first | apply Kd.R_alloc | apply Kd.R_drewN | apply Kd.R_drew)); exact HO386.out) hb); have n1_ := Aside0.mk (Kd.R_below (by (with_reducible repeat (first | apply Kd.R_alloc | apply Kd.R_drewN | apply Kd.R_drew)); exact HO391.out) hb); have n2_ := Aside0.mk (blk_below (g := gb377) (o := .cells #[.int .i64 t373, .int .i64 t374, .bool t375] 27 (0, 0)) (by (with_reducible repeat (first | refine blk_drewN ?_ _ | refine blk_drew ?_ | refine blk_alloc ?_ _)); exact BK377.out) hb); have n3_ := Aside0.mk (below_step (by repeat (first | (with_reducible first | exact HB.out | apply below_alloc | apply pw_below_drewN | apply below_drew1 | refine below_set ?_ GE377.out) | exact HB.out)) hb); clear HO386; clear HO391; clear BK377; clear HB; have HO386 := n0_; have HO391 := n1_; have BK377 := n2_; have HB := n3_; clear n0_ n1_ n2_ n3_; (try clear hb); (try clear hb2); (try clear hk); (try clear hi)))); go_ret)
                           exact ⟨by first | rfl | (simp [errW_none, errW_some] <;> rfl) | (simp only [← hji60]; first | rfl | (simp [errW_none, errW_some] <;> rfl)) | (simp [*, errW_none, errW_some] <;> rfl), by repeat (first | (with_reducible first | exact HB.out | apply below_alloc | apply pw_below_drewN | apply below_drew1 | refine below_set ?_ GE377.out) | exact HB.out)⟩
                         ·rw [if_neg c80] at H
                          have c80b0 : decide (x23_8 < (wrap64 (t373 + t374))) = false := decide_eq_false c80
                          clear c80
                          obtain rfl := Option.some.inj H
                          have hcz124_0 : wr.cell? ⟨gb377, 0, none⟩ = some (.int .i64 t373) := (blk_cell BK377.out 0).trans rfl
                          have hcz124_1 : wr.cell? ⟨gb377, 1, none⟩ = some (.int .i64 t374) := (blk_cell BK377.out 1).trans rfl
                          have hcz124_2 : wr.cell? ⟨gb377, 2, none⟩ = some (.bool t375) := (blk_cell BK377.out 2).trans rfl
                          have hfz124_0 := blk_frozen BK377.out 0
                          have hfz124_1 := blk_frozen BK377.out 1
                          have hfz124_2 := blk_frozen BK377.out 2
                          go_wp2
                          first | go_ret | (repeat (go_quiet (fail); try go_wp2); go_ret)
                          exact ⟨by first | rfl | (simp [errW_none, errW_some] <;> rfl) | (simp only [← hji60]; first | rfl | (simp [errW_none, errW_some] <;> rfl)) | (simp [*, errW_none, errW_some] <;> rfl), by repeat (first | (with_reducible first | exact HB.out | apply below_alloc | apply pw_below_drewN | apply below_drew1 | refine below_set ?_ GE377.out) | exact HB.out)⟩
                   ·replace c64 := Bool.eq_false_iff.mpr c64
                    subst c64
                    have H1 : (some false) = some r := by rw [if_neg (show ¬ (false = true) by decide)] at H; exact H
                    clear H
                    have H := H1
                    clear H1
                    obtain rfl := Option.some.inj H
                    obtain ⟨Ao125, co125, eo125⟩ := Kd.R_slice HO_16.out
                    subst eo125
                    go_wp2_with (first | (go_at_call 31; (with_reducible refine (impl_PurchaseForForce.calls k6 t350 (wrap64 (1 + (wrap64 (t351 * 100)))) ji60 t373 t374 t375 t376 _ A61.out).mono ?_); rintro e w126 ⟨rfl, hb⟩; have n0_ := Aside0.mk (Kd.R_below (by (with_reducible repeat (first | apply Kd.R_alloc | apply Kd.R_drewN | apply Kd.R_drew)); exact HO_16.out) hb); have n1_ := Aside0.mk (below_step (by repeat (first | (with_reducible first | exact HB.out | apply below_alloc | apply pw_below_drewN | apply below_drew1) | exact HB.out)) hb); clear HO_16; clear HB; have HO_16 := n0_; have HB := n1_; clear n0_ n1_; (try clear hb); (try clear hb2); (try clear hk); (try clear hi)) | ((with_reducible refine gate_dst (N := 19) rfl ?_); (try (refine gate_guard (by rfl) ?_; dsimp only)); refine box_event ?hg (N := 19) ?hd (cs := #[.int .i64 0, .int .i64 0, .bool false]) (t := 27) ?hr ?_; (case hd => rfl); (case hg => rfl); (case hr => first | (go_simp; done) | (go_simp; rfl)); intro gb377 hg w127 hbox hb; have n0_ := Aside0.mk (Kd.R_below (by (with_reducible repeat (first | apply Kd.R_alloc | apply Kd.R_drewN | apply Kd.R_drew)); exact HO_16.out) hb); have n1_ := Aside0.mk (below_step (by repeat (first | (with_reducible first | exact HB.out | apply below_alloc | apply pw_below_drewN | apply below_drew1) | exact HB.out)) hb); have n2_ := Aside0.mk (hbox); have n3_ := Aside0.mk ((by rw [hg]; exact (below_size (by repeat (first | (with_reducible first | exact HB.out | apply below_alloc | apply pw_below_drewN | apply below_drew1) | exact HB.out))) : w.heap.size ≤ gb377)); have n4_ := Aside0.mk ((by rw [hg]; exact (below_size (by repeat (first | (with_reducible first | exact HB.out | apply below_alloc | apply pw_below_drewN | apply below_drew1) | exact HB.out))) : w.heap.size ≤ gb377)); clear HO_16; clear HB; have HO_16 := n0_; have HB := n1_; have BK377 := n2_; have GW377 := n3_; have GE377 := n4_; clear n0_ n1_ n2_ n3_ n4_; clear hb hbox hg; have hcz128_0 : w127.cell? ⟨gb377, 0, none⟩ = some (.int .i64 0) := (blk_cell BK377.out 0).trans rfl; have hcz128_1 : w127.cell? ⟨gb377, 1, none⟩ = some (.int .i64 0) := (blk_cell BK377.out 1).trans rfl; have hcz128_2 : w127.cell? ⟨gb377, 2, none⟩ = some (.bool false) := (blk_cell BK377.out 2).trans rfl; have hfz128_0 := blk_frozen BK377.out 0; have hfz128_1 := blk_frozen BK377.out 1; have hfz128_2 := blk_frozen BK377.out 2) | (go_at_call 44; (with_reducible refine (spec_ValidPurchase.calls k6 t373 t374 t375 false _ A63.out).mono ?_); rintro e w129 ⟨rfl, hb⟩; have n0_ := Aside0.mk (Kd.R_below (by (with_reducible repeat (first | apply Kd.R_alloc | apply Kd.R_drewN | apply Kd.R_drew)); exact (Kd.R_mono (Kd.R_far (p := ⟨gb377, 2, none⟩) (Kd.R_far (p := ⟨gb377, 1, none⟩) (Kd.R_far (p := ⟨gb377, 0, none⟩) (Kd.R_types HO_16.out BK377.out (by decide)) (fun _ hk => hk.2) (.int .i64 t373)) (fun _ hk => hk.2) (.int .i64 t374)) (fun _ hk => hk.2) (.bool t375)) (fun _ h_ => h_.1))) hb); have n1_ := Aside0.mk (blk_below (g := gb377) (o := .cells #[.int .i64 t373, .int .i64 t374, .bool t375] 27 (0, 0)) (by (with_reducible repeat (first | refine blk_drewN ?_ _ | refine blk_drew ?_ | refine blk_alloc ?_ _)); refine blk_put (cs := #[.int .i64 t373, .int .i64 t374, .bool false]) ?_ 2 _ rfl; (with_reducible repeat (first | refine blk_drewN ?_ _ | refine blk_drew ?_ | refine blk_alloc ?_ _)); refine blk_put (cs := #[.int .i64 t373, .int .i64 0, .bool false]) ?_ 1 _ rfl; (with_reducible repeat (first | refine blk_drewN ?_ _ | refine blk_drew ?_ | refine blk_alloc ?_ _)); refine blk_put (cs := #[.int .i64 0, .int .i64 0, .bool false]) ?_ 0 _ rfl; (with_reducible repeat (first | refine blk_drewN ?_ _ | refine blk_drew ?_ | refine blk_alloc ?_ _)); exact BK377.out) hb); have n2_ := Aside0.mk (below_step (by repeat (first | (with_reducible first | exact HB.out | apply below_alloc | apply pw_below_drewN | apply below_drew1 | refine below_set ?_ GE377.out) | exact HB.out)) hb); clear HO_16; clear BK377; clear HB; have HO_16 := n0_; have BK377 := n1_; have HB := n2_; clear n0_ n1_ n2_; (try clear hb); (try clear hb2); (try clear hk); (try clear hi)))
                    first | go_ret | (repeat (go_quiet (first | (go_at_call 31; (with_reducible refine (impl_PurchaseForForce.calls k6 t350 (wrap64 (1 + (wrap64 (t351 * 100)))) ji60 t373 t374 t375 t376 _ A61.out).mono ?_); rintro e w126 ⟨rfl, hb⟩; have n0_ := Aside0.mk (Kd.R_below (by (with_reducible repeat (first | apply Kd.R_alloc | apply Kd.R_drewN | apply Kd.R_drew)); exact HO_16.out) hb); have n1_ := Aside0.mk (below_step (by repeat (first | (with_reducible first | exact HB.out | apply below_alloc | apply pw_below_drewN | apply below_drew1) | exact HB.out)) hb); clear HO_16; clear HB; have HO_16 := n0_; have HB := n1_; clear n0_ n1_; (try clear hb); (try clear hb2); (try clear hk); (try clear hi)) | ((with_reducible refine gate_dst (N := 19) rfl ?_); (try (refine gate_guard (by rfl) ?_; dsimp only)); refine box_event ?hg (N := 19) ?hd (cs := #[.int .i64 0, .int .i64 0, .bool false]) (t := 27) ?hr ?_; (case hd => rfl); (case hg => rfl); (case hr => first | (go_simp; done) | (go_simp; rfl)); intro gb377 hg w127 hbox hb; have n0_ := Aside0.mk (Kd.R_below (by (with_reducible repeat (first | apply Kd.R_alloc | apply Kd.R_drewN | apply Kd.R_drew)); exact HO_16.out) hb); have n1_ := Aside0.mk (below_step (by repeat (first | (with_reducible first | exact HB.out | apply below_alloc | apply pw_below_drewN | apply below_drew1) | exact HB.out)) hb); have n2_ := Aside0.mk (hbox); have n3_ := Aside0.mk ((by rw [hg]; exact (below_size (by repeat (first | (with_reducible first | exact HB.out | apply below_alloc | apply pw_below_drewN | apply below_drew1) | exact HB.out))) : w.heap.size ≤ gb377)); have n4_ := Aside0.mk ((by rw [hg]; exact (below_size (by repeat (first | (with_reducible first | exact HB.out | apply below_alloc | apply pw_below_drewN | apply below_drew1) | exact HB.out))) : w.heap.size ≤ gb377)); clear HO_16; clear HB; have HO_16 := n0_; have HB := n1_; have BK377 := n2_; have GW377 := n3_; have GE377 := n4_; clear n0_ n1_ n2_ n3_ n4_; clear hb hbox hg; have hcz128_0 : w127.cell? ⟨gb377, 0, none⟩ = some (.int .i64 0) := (blk_cell BK377.out 0).trans rfl; have hcz128_1 : w127.cell? ⟨gb377, 1, none⟩ = some (.int .i64 0) := (blk_cell BK377.out 1).trans rfl; have hcz128_2 : w127.cell? ⟨gb377, 2, none⟩ = some (.bool false) := (blk_cell BK377.out 2).trans rfl; have hfz128_0 := blk_frozen BK377.out 0; have hfz128_1 := blk_frozen BK377.out 1; have hfz128_2 := blk_frozen BK377.out 2) | (go_at_call 44; (with_reducible refine (spec_ValidPurchase.calls k6 t373 t374 t375 false _ A63.out).mono ?_); rintro e w129 ⟨rfl, hb⟩; have n0_ := Aside0.mk (Kd.R_below (by (with_reducible repeat (first | apply Kd.R_alloc | apply Kd.R_drewN | apply Kd.R_drew)); exact (Kd.R_mono (Kd.R_far (p := ⟨gb377, 2, none⟩) (Kd.R_far (p := ⟨gb377, 1, none⟩) (Kd.R_far (p := ⟨gb377, 0, none⟩) (Kd.R_types HO_16.out BK377.out (by decide)) (fun _ hk => hk.2) (.int .i64 t373)) (fun _ hk => hk.2) (.int .i64 t374)) (fun _ hk => hk.2) (.bool t375)) (fun _ h_ => h_.1))) hb); have n1_ := Aside0.mk (blk_below (g := gb377) (o := .cells #[.int .i64 t373, .int .i64 t374, .bool t375] 27 (0, 0)) (by (with_reducible repeat (first | refine blk_drewN ?_ _ | refine blk_drew ?_ | refine blk_alloc ?_ _)); refine blk_put (cs := #[.int .i64 t373, .int .i64 t374, .bool false]) ?_ 2 _ rfl; (with_reducible repeat (first | refine blk_drewN ?_ _ | refine blk_drew ?_ | refine blk_alloc ?_ _)); refine blk_put (cs := #[.int .i64 t373, .int .i64 0, .bool false]) ?_ 1 _ rfl; (with_reducible repeat (first | refine blk_drewN ?_ _ | refine blk_drew ?_ | refine blk_alloc ?_ _)); refine blk_put (cs := #[.int .i64 0, .int .i64 0, .bool false]) ?_ 0 _ rfl; (with_reducible repeat (first | refine blk_drewN ?_ _ | refine blk_drew ?_ | refine blk_alloc ?_ _)); exact BK377.out) hb); have n2_ := Aside0.mk (below_step (by repeat (first | (with_reducible first | exact HB.out | apply below_alloc | apply pw_below_drewN | apply below_drew1 | refine below_set ?_ GE377.out) | exact HB.out)) hb); clear HO_16; clear BK377; clear HB; have HO_16 := n0_; have BK377 := n1_; have HB := n2_; clear n0_ n1_ n2_; (try clear hb); (try clear hb2); (try clear hk); (try clear hi))); try go_wp2_with (first | (go_at_call 31; (with_reducible refine (impl_PurchaseForForce.calls k6 t350 (wrap64 (1 + (wrap64 (t351 * 100)))) ji60 t373 t374 t375 t376 _ A61.out).mono ?_); rintro e w126 ⟨rfl, hb⟩; have n0_ := Aside0.mk (Kd.R_below (by (with_reducible repeat (first | apply Kd.R_alloc | apply Kd.R_drewN | apply Kd.R_drew)); exact HO_16.out) hb); have n1_ := Aside0.mk (below_step (by repeat (first | (with_reducible first | exact HB.out | apply below_alloc | apply pw_below_drewN | apply below_drew1) | exact HB.out)) hb); clear HO_16; clear HB; have HO_16 := n0_; have HB := n1_; clear n0_ n1_; (try clear hb); (try clear hb2); (try clear hk); (try clear hi)) | ((with_reducible refine gate_dst (N := 19) rfl ?_); (try (refine gate_guard (by rfl) ?_; dsimp only)); refine box_event ?hg (N := 19) ?hd (cs := #[.int .i64 0, .int .i64 0, .bool false]) (t := 27) ?hr ?_; (case hd => rfl); (case hg => rfl); (case hr => first | (go_simp; done) | (go_simp; rfl)); intro gb377 hg w127 hbox hb; have n0_ := Aside0.mk (Kd.R_below (by (with_reducible repeat (first | apply Kd.R_alloc | apply Kd.R_drewN | apply Kd.R_drew)); exact HO_16.out) hb); have n1_ := Aside0.mk (below_step (by repeat (first | (with_reducible first | exact HB.out | apply below_alloc | apply pw_below_drewN | apply below_drew1) | exact HB.out)) hb); have n2_ := Aside0.mk (hbox); have n3_ := Aside0.mk ((by rw [hg]; exact (below_size (by repeat (first | (with_reducible first | exact HB.out | apply below_alloc | apply pw_below_drewN | apply below_drew1) | exact HB.out))) : w.heap.size ≤ gb377)); have n4_ := Aside0.mk ((by rw [hg]; exact (below_size (by repeat (first | (with_reducible first | exact HB.out | apply below_alloc | apply pw_below_drewN | apply below_drew1) | exact HB.out))) : w.heap.size ≤ gb377)); clear HO_16; clear HB; have HO_16 := n0_; have HB := n1_; have BK377 := n2_; have GW377 := n3_; have GE377 := n4_; clear n0_ n1_ n2_ n3_ n4_; clear hb hbox hg; have hcz128_0 : w127.cell? ⟨gb377, 0, none⟩ = some (.int .i64 0) := (blk_cell BK377.out 0).trans rfl; have hcz128_1 : w127.cell? ⟨gb377, 1, none⟩ = some (.int .i64 0) := (blk_cell BK377.out 1).trans rfl; have hcz128_2 : w127.cell? ⟨gb377, 2, none⟩ = some (.bool false) := (blk_cell BK377.out 2).trans rfl; have hfz128_0 := blk_frozen BK377.out 0; have hfz128_1 := blk_frozen BK377.out 1; have hfz128_2 := blk_frozen BK377.out 2) | (go_at_call 44; (with_reducible refine (spec_ValidPurchase.calls k6 t373 t374 t375 false _ A63.out).mono ?_); rintro e w129 ⟨rfl, hb⟩; have n0_ := Aside0.mk (Kd.R_below (by (with_reducible repeat (first | apply Kd.R_alloc | apply Kd.R_drewN | apply Kd.R_drew)); exact (Kd.R_mono (Kd.R_far (p := ⟨gb377, 2, none⟩) (Kd.R_far (p := ⟨gb377, 1, none⟩) (Kd.R_far (p := ⟨gb377, 0, none⟩) (Kd.R_types HO_16.out BK377.out (by decide)) (fun _ hk => hk.2) (.int .i64 t373)) (fun _ hk => hk.2) (.int .i64 t374)) (fun _ hk => hk.2) (.bool t375)) (fun _ h_ => h_.1))) hb); have n1_ := Aside0.mk (blk_below (g := gb377) (o := .cells #[.int .i64 t373, .int .i64 t374, .bool t375] 27 (0, 0)) (by (with_reducible repeat (first | refine blk_drewN ?_ _ | refine blk_drew ?_ | refine blk_alloc ?_ _)); refine blk_put (cs := #[.int .i64 t373, .int .i64 t374, .bool false]) ?_ 2 _ rfl; (with_reducible repeat (first | refine blk_drewN ?_ _ | refine blk_drew ?_ | refine blk_alloc ?_ _)); refine blk_put (cs := #[.int .i64 t373, .int .i64 0, .bool false]) ?_ 1 _ rfl; (with_reducible repeat (first | refine blk_drewN ?_ _ | refine blk_drew ?_ | refine blk_alloc ?_ _)); refine blk_put (cs := #[.int .i64 0, .int .i64 0, .bool false]) ?_ 0 _ rfl; (with_reducible repeat (first | refine blk_drewN ?_ _ | refine blk_drew ?_ | refine blk_alloc ?_ _)); exact BK377.out) hb); have n2_ := Aside0.mk (below_step (by repeat (first | (with_reducible first | exact HB.out | apply below_alloc | apply pw_below_drewN | apply below_drew1 | refine below_set ?_ GE377.out) | exact HB.out)) hb); clear HO_16; clear BK377; clear HB; have HO_16 := n0_; have BK377 := n1_; have HB := n2_; clear n0_ n1_ n2_; (try clear hb); (try clear hb2); (try clear hk); (try clear hi)))); go_ret)
                    exact ⟨by first | rfl | (simp [errW_none, errW_some] <;> rfl) | (simp only [← hji60]; first | rfl | (simp [errW_none, errW_some] <;> rfl)) | (simp [*, errW_none, errW_some] <;> rfl), by repeat (first | (with_reducible first | exact HB.out | apply below_alloc | apply pw_below_drewN | apply below_drew1 | refine below_set ?_ GE377.out) | exact HB.out)⟩
                  ·rw [if_neg c62] at H
                   have c62b0 : (t376 == 0) = false := beq_eq_false_iff_ne.mpr c62
                   have c62b1 : (t376 != 0) = true := bne_iff_ne.mpr c62
                   obtain rfl := Option.some.inj H
                   obtain ⟨Ao130, co130, eo130⟩ := Kd.R_slice HO_16.out
                   subst eo130
                   go_wp2_with (first | (go_at_call 31; (with_reducible refine (impl_PurchaseForForce.calls k6 t350 (wrap64 (1 + (wrap64 (t351 * 100)))) ji60 t373 t374 t375 t376 _ A61.out).mono ?_); rintro e w131 ⟨rfl, hb⟩; have n0_ := Aside0.mk (Kd.R_below (by (with_reducible repeat (first | apply Kd.R_alloc | apply Kd.R_drewN | apply Kd.R_drew)); exact HO_16.out) hb); have n1_ := Aside0.mk (below_step (by repeat (first | (with_reducible first | exact HB.out | apply below_alloc | apply pw_below_drewN | apply below_drew1) | exact HB.out)) hb); clear HO_16; clear HB; have HO_16 := n0_; have HB := n1_; clear n0_ n1_; (try clear hb); (try clear hb2); (try clear hk); (try clear hi)) | ((with_reducible refine gate_dst (N := 19) rfl ?_); (try (refine gate_guard (by rfl) ?_; dsimp only)); refine box_event ?hg (N := 19) ?hd (cs := #[.int .i64 0, .int .i64 0, .bool false]) (t := 27) ?hr ?_; (case hd => rfl); (case hg => rfl); (case hr => first | (go_simp; done) | (go_simp; rfl)); intro gb377 hg w132 hbox hb; have n0_ := Aside0.mk (Kd.R_below (by (with_reducible repeat (first | apply Kd.R_alloc | apply Kd.R_drewN | apply Kd.R_drew)); exact HO_16.out) hb); have n1_ := Aside0.mk (below_step (by repeat (first | (with_reducible first | exact HB.out | apply below_alloc | apply pw_below_drewN | apply below_drew1) | exact HB.out)) hb); have n2_ := Aside0.mk (hbox); have n3_ := Aside0.mk ((by rw [hg]; exact (below_size (by repeat (first | (with_reducible first | exact HB.out | apply below_alloc | apply pw_below_drewN | apply below_drew1) | exact HB.out))) : w.heap.size ≤ gb377)); have n4_ := Aside0.mk ((by rw [hg]; exact (below_size (by repeat (first | (with_reducible first | exact HB.out | apply below_alloc | apply pw_below_drewN | apply below_drew1) | exact HB.out))) : w.heap.size ≤ gb377)); clear HO_16; clear HB; have HO_16 := n0_; have HB := n1_; have BK377 := n2_; have GW377 := n3_; have GE377 := n4_; clear n0_ n1_ n2_ n3_ n4_; clear hb hbox hg; have hcz133_0 : w132.cell? ⟨gb377, 0, none⟩ = some (.int .i64 0) := (blk_cell BK377.out 0).trans rfl; have hcz133_1 : w132.cell? ⟨gb377, 1, none⟩ = some (.int .i64 0) := (blk_cell BK377.out 1).trans rfl; have hcz133_2 : w132.cell? ⟨gb377, 2, none⟩ = some (.bool false) := (blk_cell BK377.out 2).trans rfl; have hfz133_0 := blk_frozen BK377.out 0; have hfz133_1 := blk_frozen BK377.out 1; have hfz133_2 := blk_frozen BK377.out 2))
                   first | go_ret | (repeat (go_quiet (first | (go_at_call 31; (with_reducible refine (impl_PurchaseForForce.calls k6 t350 (wrap64 (1 + (wrap64 (t351 * 100)))) ji60 t373 t374 t375 t376 _ A61.out).mono ?_); rintro e w131 ⟨rfl, hb⟩; have n0_ := Aside0.mk (Kd.R_below (by (with_reducible repeat (first | apply Kd.R_alloc | apply Kd.R_drewN | apply Kd.R_drew)); exact HO_16.out) hb); have n1_ := Aside0.mk (below_step (by repeat (first | (with_reducible first | exact HB.out | apply below_alloc | apply pw_below_drewN | apply below_drew1) | exact HB.out)) hb); clear HO_16; clear HB; have HO_16 := n0_; have HB := n1_; clear n0_ n1_; (try clear hb); (try clear hb2); (try clear hk); (try clear hi)) | ((with_reducible refine gate_dst (N := 19) rfl ?_); (try (refine gate_guard (by rfl) ?_; dsimp only)); refine box_event ?hg (N := 19) ?hd (cs := #[.int .i64 0, .int .i64 0, .bool false]) (t := 27) ?hr ?_; (case hd => rfl); (case hg => rfl); (case hr => first | (go_simp; done) | (go_simp; rfl)); intro gb377 hg w132 hbox hb; have n0_ := Aside0.mk (Kd.R_below (by (with_reducible repeat (first | apply Kd.R_alloc | apply Kd.R_drewN | apply Kd.R_drew)); exact HO_16.out) hb); have n1_ := Aside0.mk (below_step (by repeat (first | (with_reducible first | exact HB.out | apply below_alloc | apply pw_below_drewN | apply below_drew1) | exact HB.out)) hb); have n2_ := Aside0.mk (hbox); have n3_ := Aside0.mk ((by rw [hg]; exact (below_size (by repeat (first | (with_reducible first | exact HB.out | apply below_alloc | apply pw_below_drewN | apply below_drew1) | exact HB.out))) : w.heap.size ≤ gb377)); have n4_ := Aside0.mk ((by rw [hg]; exact (below_size (by repeat (first | (with_reducible first | exact HB.out | apply below_alloc | apply pw_below_drewN | apply below_drew1) | exact HB.out))) : w.heap.size ≤ gb377)); clear HO_16; clear HB; have HO_16 := n0_; have HB := n1_; have BK377 := n2_; have GW377 := n3_; have GE377 := n4_; clear n0_ n1_ n2_ n3_ n4_; clear hb hbox hg; have hcz133_0 : w132.cell? ⟨gb377, 0, none⟩ = some (.int .i64 0) := (blk_cell BK377.out 0).trans rfl; have hcz133_1 : w132.cell? ⟨gb377, 1, none⟩ = some (.int .i64 0) := (blk_cell BK377.out 1).trans rfl; have hcz133_2 : w132.cell? ⟨gb377, 2, none⟩ = some (.bool false) := (blk_cell BK377.out 2).trans rfl; have hfz133_0 := blk_frozen BK377.out 0; have hfz133_1 := blk_frozen BK377.out 1; have hfz133_2 := blk_frozen BK377.out 2)); try go_wp2_with (first | (go_at_call 31; (with_reducible refine (impl_PurchaseForForce.calls k6 t350 (wrap64 (1 + (wrap64 (t351 * 100)))) ji60 t373 t374 t375 t376 _ A61.out).mono ?_); rintro e w131 ⟨rfl, hb⟩; have n0_ := Aside0.mk (Kd.R_below (by (with_reducible repeat (first | apply Kd.R_alloc | apply Kd.R_drewN | apply Kd.R_drew)); exact HO_16.out) hb); have n1_ := Aside0.mk (below_step (by repeat (first | (with_reducible first | exact HB.out | apply below_alloc | apply pw_below_drewN | apply below_drew1) | exact HB.out)) hb); clear HO_16; clear HB; have HO_16 := n0_; have HB := n1_; clear n0_ n1_; (try clear hb); (try clear hb2); (try clear hk); (try clear hi)) | ((with_reducible refine gate_dst (N := 19) rfl ?_); (try (refine gate_guard (by rfl) ?_; dsimp only)); refine box_event ?hg (N := 19) ?hd (cs := #[.int .i64 0, .int .i64 0, .bool false]) (t := 27) ?hr ?_; (case hd => rfl); (case hg => rfl); (case hr => first | (go_simp; done) | (go_simp; rfl)); intro gb377 hg w132 hbox hb; have n0_ := Aside0.mk (Kd.R_below (by (with_reducible repeat (first | apply Kd.R_alloc | apply Kd.R_drewN | apply Kd.R_drew)); exact HO_16.out) hb); have n1_ := Aside0.mk (below_step (by repeat (first | (with_reducible first | exact HB.out | apply below_alloc | apply pw_below_drewN | apply below_drew1) | exact HB.out)) hb); have n2_ := Aside0.mk (hbox); have n3_ := Aside0.mk ((by rw [hg]; exact (below_size (by repeat (first | (with_reducible first | exact HB.out | apply below_alloc | apply pw_below_drewN | apply below_drew1) | exact HB.out))) : w.heap.size ≤ gb377)); have n4_ := Aside0.mk ((by rw [hg]; exact (below_size (by repeat (first | (with_reducible first | exact HB.out | apply below_alloc | apply pw_below_drewN | apply below_drew1) | exact HB.out))) : w.heap.size ≤ gb377)); clear HO_16; clear HB; have HO_16 := n0_; have HB := n1_; have BK377 := n2_; have GW377 := n3_; have GE377 := n4_; clear n0_ n1_ n2_ n3_ n4_; clear hb hbox hg; have hcz133_0 : w132.cell? ⟨gb377, 0, none⟩ = some (.int .i64 0) := (blk_cell BK377.out 0).trans rfl; have hcz133_1 : w132.cell? ⟨gb377, 1, none⟩ = some (.int .i64 0) := (blk_cell BK377.out 1).trans rfl; have hcz133_2 : w132.cell? ⟨gb377, 2, none⟩ = some (.bool false) := (blk_cell BK377.out 2).trans rfl; have hfz133_0 := blk_frozen BK377.out 0; have hfz133_1 := blk_frozen BK377.out 1; have hfz133_2 := blk_frozen BK377.out 2))); go_ret)
                   exact ⟨by first | rfl | (simp [errW_none, errW_some] <;> rfl) | (simp only [← hji60]; first | rfl | (simp [errW_none, errW_some] <;> rfl)) | (simp [*, errW_none, errW_some] <;> rfl), by repeat (first | (with_reducible first | exact HB.out | apply below_alloc | apply pw_below_drewN | apply below_drew1 | refine below_set ?_ GE377.out) | exact HB.out)⟩
           ·rw [if_neg c39] at H
            exact absurd H (by simp)

/-- THE ONE PURE STATEMENT of laws_FnForces: yours. -/
def laws_FnForces.Pure : Prop := ∀ (l0 : List Int) (l1 : List Int), l0.length ≤ maxLen → l0.length * 1 ≤ 140737488351232 → (∀ x ∈ l0, (Lit.int .u8 x).wf = true) → l1.length ≤ maxLen → l1.length * 1 ≤ 140737488351232 → (∀ x ∈ l1, (Lit.int .u8 x).wf = true) → ∃ k, laws_FnForces.f k l0 l1 = some true
theorem laws_FnForces.walk (P : laws_FnForces.Pure) (a0 : Option Addr) (len0 cap0 : Nat) (z0 : List Int) (a1 : Option Addr) (len1 cap1 : Nat) (z1 : List Int) (w : World) (w0 : (a0 = none ∧ len0 = 0 ∧ cap0 = 0 ∧ z0 = []) ∨ ∃ x, a0 = some x ∧ len0 ≤ cap0 ∧ cap0 ≤ maxLen ∧ z0.length = cap0 ∧ (∀ i, i < z0.length → w.cell? (x.add i) = some (.int .u8 (z0.getD i 0))) ∧ ∀ n ∈ z0, (Lit.int .u8 n).wf = true) (y0 : len0 * 1 ≤ 140737488351232) (w1 : (a1 = none ∧ len1 = 0 ∧ cap1 = 0 ∧ z1 = []) ∨ ∃ x, a1 = some x ∧ len1 ≤ cap1 ∧ cap1 ≤ maxLen ∧ z1.length = cap1 ∧ (∀ i, i < z1.length → w.cell? (x.add i) = some (.int .u8 (z1.getD i 0))) ∧ ∀ n ∈ z1, (Lit.int .u8 n).wf = true) (y1 : len1 * 1 ≤ 140737488351232) :
  Calls Try.prog 12 #[.slice a0 len0 cap0, .slice a1 len1 cap1] w fun e w' => e = .returned (.bool true) ∧ Below w.heap.size w w' := by
 obtain ⟨l0, rfl, hr0, hm0, hw0, hc0⟩ := ReadsInt.ofRowC w0
 obtain ⟨l1, rfl, hr1, hm1, hw1, hc1⟩ := ReadsInt.ofRowC w1
 obtain ⟨k, h⟩ := P l0 l1 hm0 y0 hw0 hm1 y1 hw1
 refine (laws_FnForces.calls k _ _ l0 _ _ l1 true w (Kd.C_of_reads (d := (0 : Int)) (h1 := fun _ => rfl) hr0) hc0 (Kd.C_of_reads (d := (0 : Int)) (h1 := fun _ => rfl) hr1) hc1 h).mono ?_
 rintro e w' ⟨rfl, hd⟩
 exact ⟨rfl, hd⟩

end Go.Proofs.Ytdhdokhfgadikaa.HFnForces
