-- Written by a program for this claim (the functions that the statement reaches, and that the program's code comes to them).
import Derived.Test.YtifdihbndlmgpaaHCrox0
import Derived.Test.YtifdihbndlmgpaaHCrox4
import Derived.Test.YtifdihbndlmgpaaHCrox5
import Derived.Test.YtifdihbndlmgpaaHCrox6
import Derived.Test.YtifdihbndlmgpaaHCrox7
import Derived.Test.YtifdihbndlmgpaaHCrox8
import Derived.Test.YtifdihbndlmgpaaHCrox9
namespace Go.Proofs.Ytifdihbndlmgpaa.HCro
open Go.RowKit Go.Proofs.YtifdihbndlmgpaaW.PrintWords Go.Proofs.YtifdihbndlmgpaaW.PrintLast Go.Proofs.YtifdihbndlmgpaaW.PrintMore
attribute [local go_sem] max2_int min2_int max_two min_two max_three min_three max_four min_four   -- for this text's walks alone
set_option linter.unusedVariables false
set_option linter.unusedSimpArgs false

/-! ### laws_FnCrossings: function 6 -/
mutual
def laws_FnCrossings.j0 : Nat → Int → List (S53) → Int → List (S53) → Int → List (S53) → Int → List (S53) → Bool → Int → Bool → Int → Int → Bool → Int → Int → Bool → Int → Int → Bool → Option (Bool)
 | 0, _, _, _, _, _, _, _, _, _, _, _, _, _, _, _, _, _, _, _, _ => none
 | k + 1, x4, x5, x6, x7, x11, x14, x17, x21, x22, x25, x158, x484000, x484001, x484002, x504000, x504001, x504002, x516000, x516001, x516002 => if x158 = true then (some false) else ((spec_CrossingsOf.f k x516000 x516001 x516002 x21 x22).bind fun bt523 => (if bt523.2 = 0 then (laws_FnCrossings.j1 k x4 x5 x6 x7 x11 x14 x17 ((decide (bt523.1 > 0)) != (x25 == 0)) x484000 x484001 x484002 x504000 x504001 x504002) else (laws_FnCrossings.j1 k x4 x5 x6 x7 x11 x14 x17 false x484000 x484001 x484002 x504000 x504001 x504002)))
def laws_FnCrossings.j1 : Nat → Int → List (S53) → Int → List (S53) → Int → List (S53) → Int → Bool → Int → Int → Bool → Int → Int → Bool → Option (Bool)
 | 0, _, _, _, _, _, _, _, _, _, _, _, _, _, _ => none
 | k + 1, x4, x5, x6, x7, x11, x14, x17, x174, x484000, x484001, x484002, x504000, x504001, x504002 => if x174 = true then (some false) else (if x17 = 0 then (laws_FnCrossings.j2 k x4 x5 x6 x7 x11 x14 (decide ((x14.length : Int) > 0)) x484000 x484001 x484002 x504000 x504001 x504002) else (laws_FnCrossings.j2 k x4 x5 x6 x7 x11 x14 false x484000 x484001 x484002 x504000 x504001 x504002))
def laws_FnCrossings.j2 : Nat → Int → List (S53) → Int → List (S53) → Int → List (S53) → Bool → Int → Int → Bool → Int → Int → Bool → Option (Bool)
 | 0, _, _, _, _, _, _, _, _, _, _, _, _, _ => none
 | k + 1, x4, x5, x6, x7, x11, x14, x181, x484000, x484001, x484002, x504000, x504001, x504002 => if x181 = true then (if 0 ≤ (wrap64 ((x14.length : Int) - 1)) then (if (wrap64 ((x14.length : Int) - 1)) < (x14.length : Int) then ((impl_FewestCrossings.f k x504000 x504001 x504002 ((rd_T53 x14 (wrap64 ((x14.length : Int) - 1))).f1)).bind fun bt526 => ((spec_CrossingsOf.f k x504000 x504001 x504002 x14 false).bind fun bt528 => (if bt526.2 = 0 then (if bt528.2 = 0 then (laws_FnCrossings.j3 k x4 x5 x6 x7 x11 (decide (bt526.1 > bt528.1)) x484000 x484001 x484002) else (laws_FnCrossings.j3 k x4 x5 x6 x7 x11 true x484000 x484001 x484002)) else (laws_FnCrossings.j3 k x4 x5 x6 x7 x11 true x484000 x484001 x484002)))) else (none)) else (none)) else (if x6 = 0 then ((impl_CrossingsOf.f k x484000 x484001 x484002 x5 false).bind fun bt533 => (if bt533.2 = 0 then (if bt533.1 = x11 then (if (x7.length : Int) > 0 then (if 0 ≤ (wrap64 ((x7.length : Int) - 1)) then (if (wrap64 ((x7.length : Int) - 1)) < (x7.length : Int) then (some (((rd_T53 x7 (wrap64 ((x7.length : Int) - 1))).f1) == x4)) else (none)) else (none)) else (some false)) else (some false)) else (some false))) else (some true))
def laws_FnCrossings.j3 : Nat → Int → List (S53) → Int → List (S53) → Int → Bool → Int → Int → Bool → Option (Bool)
 | 0, _, _, _, _, _, _, _, _, _ => none
 | k + 1, x4, x5, x6, x7, x11, x210, x484000, x484001, x484002 => if x210 = true then (some false) else (if x6 = 0 then ((impl_CrossingsOf.f k x484000 x484001 x484002 x5 false).bind fun bt530 => (if bt530.2 = 0 then (if bt530.1 = x11 then (if (x7.length : Int) > 0 then (if 0 ≤ (wrap64 ((x7.length : Int) - 1)) then (if (wrap64 ((x7.length : Int) - 1)) < (x7.length : Int) then (some (((rd_T53 x7 (wrap64 ((x7.length : Int) - 1))).f1) == x4)) else (none)) else (none)) else (some false)) else (some false)) else (some false))) else (some true))
end
def laws_FnCrossings.f (k : Nat) (l0 : List Int) : Option (Bool) := (laws_f6big.f l0).bind fun t478 => (if t478 = true then (some true) else ((spec_DrawBestWay.f k l0).bind fun bt479 => ((impl_BestWay.f k bt479.1 bt479.2.1 bt479.2.2.1 bt479.2.2.2).bind fun bt484 => ((spec_BestWay.f k bt479.1 bt479.2.1 bt479.2.2.1 bt479.2.2.2).bind fun bt488 => ((impl_FewestCrossings.f k bt479.1 bt479.2.1 bt479.2.2.1 bt479.2.2.2).bind fun bt492 => ((spec_FewestCrossings.f k bt479.1 bt479.2.1 bt479.2.2.1 bt479.2.2.2).bind fun bt494 => ((spec_DrawCrossingsOf.f k l0).bind fun bt496 => ((impl_CrossingsOf.f k bt496.1 bt496.2.1 bt496.2.2.1 bt496.2.2.2.1 bt496.2.2.2.2).bind fun bt504 => ((spec_CrossingsOf.f k bt496.1 bt496.2.1 bt496.2.2.1 bt496.2.2.2.1 bt496.2.2.2.2).bind fun bt506 => ((spec_DrawFirstCrossing.f k l0).bind fun bt508 => ((impl_FirstCrossing.f k bt508.1 bt508.2.1 bt508.2.2.1 bt508.2.2.2.1 bt508.2.2.2.2).bind fun bt516 => ((spec_FirstCrossing.f k bt508.1 bt508.2.1 bt508.2.2.1 bt508.2.2.2.1 bt508.2.2.2.2).bind fun bt519 => (if bt484.2 = bt488.2 then ((spec_SameWay.f k bt484.1 bt488.1).bind fun t522 => (if t522 = true then (if bt492.2 = bt494.2 then (if bt492.1 = bt494.1 then (if bt504.2 = bt506.2 then (if bt504.1 = bt506.1 then (if bt516.2.2 = bt519.2.2 then (if bt516.1 = bt519.1 then (if bt516.2.1 = bt519.2.1 then (laws_FnCrossings.j0 k bt479.2.2.2 bt484.1 bt484.2 bt488.1 bt494.1 bt496.2.2.2.1 bt504.2 bt508.2.2.2.1 bt508.2.2.2.2 bt516.2.2 (bt492.2 != bt484.2) bt479.1 bt479.2.1 bt479.2.2.1 bt496.1 bt496.2.1 bt496.2.2.1 bt508.1 bt508.2.1 bt508.2.2.1) else (laws_FnCrossings.j0 k bt479.2.2.2 bt484.1 bt484.2 bt488.1 bt494.1 bt496.2.2.2.1 bt504.2 bt508.2.2.2.1 bt508.2.2.2.2 bt516.2.2 true bt479.1 bt479.2.1 bt479.2.2.1 bt496.1 bt496.2.1 bt496.2.2.1 bt508.1 bt508.2.1 bt508.2.2.1)) else (laws_FnCrossings.j0 k bt479.2.2.2 bt484.1 bt484.2 bt488.1 bt494.1 bt496.2.2.2.1 bt504.2 bt508.2.2.2.1 bt508.2.2.2.2 bt516.2.2 true bt479.1 bt479.2.1 bt479.2.2.1 bt496.1 bt496.2.1 bt496.2.2.1 bt508.1 bt508.2.1 bt508.2.2.1)) else (laws_FnCrossings.j0 k bt479.2.2.2 bt484.1 bt484.2 bt488.1 bt494.1 bt496.2.2.2.1 bt504.2 bt508.2.2.2.1 bt508.2.2.2.2 bt516.2.2 true bt479.1 bt479.2.1 bt479.2.2.1 bt496.1 bt496.2.1 bt496.2.2.1 bt508.1 bt508.2.1 bt508.2.2.1)) else (laws_FnCrossings.j0 k bt479.2.2.2 bt484.1 bt484.2 bt488.1 bt494.1 bt496.2.2.2.1 bt504.2 bt508.2.2.2.1 bt508.2.2.2.2 bt516.2.2 true bt479.1 bt479.2.1 bt479.2.2.1 bt496.1 bt496.2.1 bt496.2.2.1 bt508.1 bt508.2.1 bt508.2.2.1)) else (laws_FnCrossings.j0 k bt479.2.2.2 bt484.1 bt484.2 bt488.1 bt494.1 bt496.2.2.2.1 bt504.2 bt508.2.2.2.1 bt508.2.2.2.2 bt516.2.2 true bt479.1 bt479.2.1 bt479.2.2.1 bt496.1 bt496.2.1 bt496.2.2.1 bt508.1 bt508.2.1 bt508.2.2.1)) else (laws_FnCrossings.j0 k bt479.2.2.2 bt484.1 bt484.2 bt488.1 bt494.1 bt496.2.2.2.1 bt504.2 bt508.2.2.2.1 bt508.2.2.2.2 bt516.2.2 true bt479.1 bt479.2.1 bt479.2.2.1 bt496.1 bt496.2.1 bt496.2.2.1 bt508.1 bt508.2.1 bt508.2.2.1)) else (laws_FnCrossings.j0 k bt479.2.2.2 bt484.1 bt484.2 bt488.1 bt494.1 bt496.2.2.2.1 bt504.2 bt508.2.2.2.1 bt508.2.2.2.2 bt516.2.2 true bt479.1 bt479.2.1 bt479.2.2.1 bt496.1 bt496.2.1 bt496.2.2.1 bt508.1 bt508.2.1 bt508.2.2.1)) else (laws_FnCrossings.j0 k bt479.2.2.2 bt484.1 bt484.2 bt488.1 bt494.1 bt496.2.2.2.1 bt504.2 bt508.2.2.2.1 bt508.2.2.2.2 bt516.2.2 true bt479.1 bt479.2.1 bt479.2.2.1 bt496.1 bt496.2.1 bt496.2.2.1 bt508.1 bt508.2.1 bt508.2.2.1))) else (laws_FnCrossings.j0 k bt479.2.2.2 bt484.1 bt484.2 bt488.1 bt494.1 bt496.2.2.2.1 bt504.2 bt508.2.2.2.1 bt508.2.2.2.2 bt516.2.2 true bt479.1 bt479.2.1 bt479.2.2.1 bt496.1 bt496.2.1 bt496.2.2.1 bt508.1 bt508.2.1 bt508.2.2.1))))))))))))))
theorem laws_FnCrossings.mono_l : ∀ k, (∀ y0 y1 y2 y3 y4 y5 y6 y7 y8 y9 y10 y11 y12 y13 y14 y15 y16 y17 y18 y19, LeO (laws_FnCrossings.j0 k y0 y1 y2 y3 y4 y5 y6 y7 y8 y9 y10 y11 y12 y13 y14 y15 y16 y17 y18 y19) (laws_FnCrossings.j0 (k + 1) y0 y1 y2 y3 y4 y5 y6 y7 y8 y9 y10 y11 y12 y13 y14 y15 y16 y17 y18 y19)) ∧ (∀ y0 y1 y2 y3 y4 y5 y6 y7 y8 y9 y10 y11 y12 y13, LeO (laws_FnCrossings.j1 k y0 y1 y2 y3 y4 y5 y6 y7 y8 y9 y10 y11 y12 y13) (laws_FnCrossings.j1 (k + 1) y0 y1 y2 y3 y4 y5 y6 y7 y8 y9 y10 y11 y12 y13)) ∧ (∀ y0 y1 y2 y3 y4 y5 y6 y7 y8 y9 y10 y11 y12, LeO (laws_FnCrossings.j2 k y0 y1 y2 y3 y4 y5 y6 y7 y8 y9 y10 y11 y12) (laws_FnCrossings.j2 (k + 1) y0 y1 y2 y3 y4 y5 y6 y7 y8 y9 y10 y11 y12)) ∧ (∀ y0 y1 y2 y3 y4 y5 y6 y7 y8, LeO (laws_FnCrossings.j3 k y0 y1 y2 y3 y4 y5 y6 y7 y8) (laws_FnCrossings.j3 (k + 1) y0 y1 y2 y3 y4 y5 y6 y7 y8))
 | 0 => ⟨fun _ _ _ _ _ _ _ _ _ _ _ _ _ _ _ _ _ _ _ _ r h => by simp [laws_FnCrossings.j0] at h, fun _ _ _ _ _ _ _ _ _ _ _ _ _ _ r h => by simp [laws_FnCrossings.j1] at h, fun _ _ _ _ _ _ _ _ _ _ _ _ _ r h => by simp [laws_FnCrossings.j2] at h, fun _ _ _ _ _ _ _ _ _ r h => by simp [laws_FnCrossings.j3] at h⟩
 | k + 1 => by
  obtain ⟨ih0, ih1, ih2, ih3⟩ := laws_FnCrossings.mono_l k
  refine ⟨?_, ?_, ?_, ?_⟩
  ·intro y0 y1 y2 y3 y4 y5 y6 y7 y8 y9 y10 y11 y12 y13 y14 y15 y16 y17 y18 y19
   unfold laws_FnCrossings.j0
   repeat' first
   | (with_reducible exact ih0 _ _ _ _ _ _ _ _ _ _ _ _ _ _ _ _ _ _ _ _)
   | (with_reducible exact ih1 _ _ _ _ _ _ _ _ _ _ _ _ _ _)
   | (with_reducible exact ih2 _ _ _ _ _ _ _ _ _ _ _ _ _)
   | (with_reducible exact ih3 _ _ _ _ _ _ _ _ _)
   | (with_reducible exact impl_BestWay.mono _ _ _ _ _)
   | (with_reducible exact impl_CrossingsOf.mono _ _ _ _ _ _)
   | (with_reducible exact impl_FewestCrossings.mono _ _ _ _ _)
   | (with_reducible exact impl_FirstCrossing.mono _ _ _ _ _ _)
   | (with_reducible exact spec_BestWay.mono _ _ _ _ _)
   | (with_reducible exact spec_CrossingsOf.mono _ _ _ _ _ _)
   | (with_reducible exact spec_DrawBestWay.mono _ _)
   | (with_reducible exact spec_DrawCrossingsOf.mono _ _)
   | (with_reducible exact spec_DrawFirstCrossing.mono _ _)
   | (with_reducible exact spec_FewestCrossings.mono _ _ _ _ _)
   | (with_reducible exact spec_FirstCrossing.mono _ _ _ _ _ _)
   | (with_reducible exact spec_SameWay.mono _ _ _)
   | (with_reducible exact LeO.refl _)
   | (with_reducible exact LeO.none _)
   | (with_reducible refine LeO.ite ?_ ?_)
   | (with_reducible refine LeO.bind ?_ (fun _ => ?_))
   | exact ih0 _ _ _ _ _ _ _ _ _ _ _ _ _ _ _ _ _ _ _ _
   | exact ih1 _ _ _ _ _ _ _ _ _ _ _ _ _ _
   | exact ih2 _ _ _ _ _ _ _ _ _ _ _ _ _
   | exact ih3 _ _ _ _ _ _ _ _ _
   | exact impl_BestWay.mono _ _ _ _ _
   | exact impl_CrossingsOf.mono _ _ _ _ _ _
   | exact impl_FewestCrossings.mono _ _ _ _ _
   | exact impl_FirstCrossing.mono _ _ _ _ _ _
   | exact spec_BestWay.mono _ _ _ _ _
   | exact spec_CrossingsOf.mono _ _ _ _ _ _
   | exact spec_DrawBestWay.mono _ _
   | exact spec_DrawCrossingsOf.mono _ _
   | exact spec_DrawFirstCrossing.mono _ _
   | exact spec_FewestCrossings.mono _ _ _ _ _
   | exact spec_FirstCrossing.mono _ _ _ _ _ _
   | exact spec_SameWay.mono _ _ _
   | exact LeO.none _
   | refine LeO.ite ?_ ?_
   | refine LeO.bind ?_ (fun _ => ?_)
  ·intro y0 y1 y2 y3 y4 y5 y6 y7 y8 y9 y10 y11 y12 y13
   unfold laws_FnCrossings.j1
   repeat' first
   | (with_reducible exact ih0 _ _ _ _ _ _ _ _ _ _ _ _ _ _ _ _ _ _ _ _)
   | (with_reducible exact ih1 _ _ _ _ _ _ _ _ _ _ _ _ _ _)
   | (with_reducible exact ih2 _ _ _ _ _ _ _ _ _ _ _ _ _)
   | (with_reducible exact ih3 _ _ _ _ _ _ _ _ _)
   | (with_reducible exact impl_BestWay.mono _ _ _ _ _)
   | (with_reducible exact impl_CrossingsOf.mono _ _ _ _ _ _)
   | (with_reducible exact impl_FewestCrossings.mono _ _ _ _ _)
   | (with_reducible exact impl_FirstCrossing.mono _ _ _ _ _ _)
   | (with_reducible exact spec_BestWay.mono _ _ _ _ _)
   | (with_reducible exact spec_CrossingsOf.mono _ _ _ _ _ _)
   | (with_reducible exact spec_DrawBestWay.mono _ _)
   | (with_reducible exact spec_DrawCrossingsOf.mono _ _)
   | (with_reducible exact spec_DrawFirstCrossing.mono _ _)
   | (with_reducible exact spec_FewestCrossings.mono _ _ _ _ _)
   | (with_reducible exact spec_FirstCrossing.mono _ _ _ _ _ _)
   | (with_reducible exact spec_SameWay.mono _ _ _)
   | (with_reducible exact LeO.refl _)
   | (with_reducible exact LeO.none _)
   | (with_reducible refine LeO.ite ?_ ?_)
   | (with_reducible refine LeO.bind ?_ (fun _ => ?_))
   | exact ih0 _ _ _ _ _ _ _ _ _ _ _ _ _ _ _ _ _ _ _ _
   | exact ih1 _ _ _ _ _ _ _ _ _ _ _ _ _ _
   | exact ih2 _ _ _ _ _ _ _ _ _ _ _ _ _
   | exact ih3 _ _ _ _ _ _ _ _ _
   | exact impl_BestWay.mono _ _ _ _ _
   | exact impl_CrossingsOf.mono _ _ _ _ _ _
   | exact impl_FewestCrossings.mono _ _ _ _ _
   | exact impl_FirstCrossing.mono _ _ _ _ _ _
   | exact spec_BestWay.mono _ _ _ _ _
   | exact spec_CrossingsOf.mono _ _ _ _ _ _
   | exact spec_DrawBestWay.mono _ _
   | exact spec_DrawCrossingsOf.mono _ _
   | exact spec_DrawFirstCrossing.mono _ _
   | exact spec_FewestCrossings.mono _ _ _ _ _
   | exact spec_FirstCrossing.mono _ _ _ _ _ _
   | exact spec_SameWay.mono _ _ _
   | exact LeO.none _
   | refine LeO.ite ?_ ?_
   | refine LeO.bind ?_ (fun _ => ?_)
  ·intro y0 y1 y2 y3 y4 y5 y6 y7 y8 y9 y10 y11 y12
   unfold laws_FnCrossings.j2
   repeat' first
   | (with_reducible exact ih0 _ _ _ _ _ _ _ _ _ _ _ _ _ _ _ _ _ _ _ _)
   | (with_reducible exact ih1 _ _ _ _ _ _ _ _ _ _ _ _ _ _)
   | (with_reducible exact ih2 _ _ _ _ _ _ _ _ _ _ _ _ _)
   | (with_reducible exact ih3 _ _ _ _ _ _ _ _ _)
   | (with_reducible exact impl_BestWay.mono _ _ _ _ _)
   | (with_reducible exact impl_CrossingsOf.mono _ _ _ _ _ _)
   | (with_reducible exact impl_FewestCrossings.mono _ _ _ _ _)
   | (with_reducible exact impl_FirstCrossing.mono _ _ _ _ _ _)
   | (with_reducible exact spec_BestWay.mono _ _ _ _ _)
   | (with_reducible exact spec_CrossingsOf.mono _ _ _ _ _ _)
   | (with_reducible exact spec_DrawBestWay.mono _ _)
   | (with_reducible exact spec_DrawCrossingsOf.mono _ _)
   | (with_reducible exact spec_DrawFirstCrossing.mono _ _)
   | (with_reducible exact spec_FewestCrossings.mono _ _ _ _ _)
   | (with_reducible exact spec_FirstCrossing.mono _ _ _ _ _ _)
   | (with_reducible exact spec_SameWay.mono _ _ _)
   | (with_reducible exact LeO.refl _)
   | (with_reducible exact LeO.none _)
   | (with_reducible refine LeO.ite ?_ ?_)
   | (with_reducible refine LeO.bind ?_ (fun _ => ?_))
   | exact ih0 _ _ _ _ _ _ _ _ _ _ _ _ _ _ _ _ _ _ _ _
   | exact ih1 _ _ _ _ _ _ _ _ _ _ _ _ _ _
   | exact ih2 _ _ _ _ _ _ _ _ _ _ _ _ _
   | exact ih3 _ _ _ _ _ _ _ _ _
   | exact impl_BestWay.mono _ _ _ _ _
   | exact impl_CrossingsOf.mono _ _ _ _ _ _
   | exact impl_FewestCrossings.mono _ _ _ _ _
   | exact impl_FirstCrossing.mono _ _ _ _ _ _
   | exact spec_BestWay.mono _ _ _ _ _
   | exact spec_CrossingsOf.mono _ _ _ _ _ _
   | exact spec_DrawBestWay.mono _ _
   | exact spec_DrawCrossingsOf.mono _ _
   | exact spec_DrawFirstCrossing.mono _ _
   | exact spec_FewestCrossings.mono _ _ _ _ _
   | exact spec_FirstCrossing.mono _ _ _ _ _ _
   | exact spec_SameWay.mono _ _ _
   | exact LeO.none _
   | refine LeO.ite ?_ ?_
   | refine LeO.bind ?_ (fun _ => ?_)
  ·intro y0 y1 y2 y3 y4 y5 y6 y7 y8
   unfold laws_FnCrossings.j3
   repeat' first
   | (with_reducible exact ih0 _ _ _ _ _ _ _ _ _ _ _ _ _ _ _ _ _ _ _ _)
   | (with_reducible exact ih1 _ _ _ _ _ _ _ _ _ _ _ _ _ _)
   | (with_reducible exact ih2 _ _ _ _ _ _ _ _ _ _ _ _ _)
   | (with_reducible exact ih3 _ _ _ _ _ _ _ _ _)
   | (with_reducible exact impl_BestWay.mono _ _ _ _ _)
   | (with_reducible exact impl_CrossingsOf.mono _ _ _ _ _ _)
   | (with_reducible exact impl_FewestCrossings.mono _ _ _ _ _)
   | (with_reducible exact impl_FirstCrossing.mono _ _ _ _ _ _)
   | (with_reducible exact spec_BestWay.mono _ _ _ _ _)
   | (with_reducible exact spec_CrossingsOf.mono _ _ _ _ _ _)
   | (with_reducible exact spec_DrawBestWay.mono _ _)
   | (with_reducible exact spec_DrawCrossingsOf.mono _ _)
   | (with_reducible exact spec_DrawFirstCrossing.mono _ _)
   | (with_reducible exact spec_FewestCrossings.mono _ _ _ _ _)
   | (with_reducible exact spec_FirstCrossing.mono _ _ _ _ _ _)
   | (with_reducible exact spec_SameWay.mono _ _ _)
   | (with_reducible exact LeO.refl _)
   | (with_reducible exact LeO.none _)
   | (with_reducible refine LeO.ite ?_ ?_)
   | (with_reducible refine LeO.bind ?_ (fun _ => ?_))
   | exact ih0 _ _ _ _ _ _ _ _ _ _ _ _ _ _ _ _ _ _ _ _
   | exact ih1 _ _ _ _ _ _ _ _ _ _ _ _ _ _
   | exact ih2 _ _ _ _ _ _ _ _ _ _ _ _ _
   | exact ih3 _ _ _ _ _ _ _ _ _
   | exact impl_BestWay.mono _ _ _ _ _
   | exact impl_CrossingsOf.mono _ _ _ _ _ _
   | exact impl_FewestCrossings.mono _ _ _ _ _
   | exact impl_FirstCrossing.mono _ _ _ _ _ _
   | exact spec_BestWay.mono _ _ _ _ _
   | exact spec_CrossingsOf.mono _ _ _ _ _ _
   | exact spec_DrawBestWay.mono _ _
   | exact spec_DrawCrossingsOf.mono _ _
   | exact spec_DrawFirstCrossing.mono _ _
   | exact spec_FewestCrossings.mono _ _ _ _ _
   | exact spec_FirstCrossing.mono _ _ _ _ _ _
   | exact spec_SameWay.mono _ _ _
   | exact LeO.none _
   | refine LeO.ite ?_ ?_
   | refine LeO.bind ?_ (fun _ => ?_)
theorem laws_FnCrossings.mono : ∀ a0 k, LeO (laws_FnCrossings.f k a0) (laws_FnCrossings.f (k + 1) a0) := by
 intro a0 k
 obtain ⟨ih0, ih1, ih2, ih3⟩ := laws_FnCrossings.mono_l k
 unfold laws_FnCrossings.f
 repeat' first
   | (with_reducible exact ih0 _ _ _ _ _ _ _ _ _ _ _ _ _ _ _ _ _ _ _ _)
   | (with_reducible exact ih1 _ _ _ _ _ _ _ _ _ _ _ _ _ _)
   | (with_reducible exact ih2 _ _ _ _ _ _ _ _ _ _ _ _ _)
   | (with_reducible exact ih3 _ _ _ _ _ _ _ _ _)
   | (with_reducible exact impl_BestWay.mono _ _ _ _ _)
   | (with_reducible exact impl_CrossingsOf.mono _ _ _ _ _ _)
   | (with_reducible exact impl_FewestCrossings.mono _ _ _ _ _)
   | (with_reducible exact impl_FirstCrossing.mono _ _ _ _ _ _)
   | (with_reducible exact spec_BestWay.mono _ _ _ _ _)
   | (with_reducible exact spec_CrossingsOf.mono _ _ _ _ _ _)
   | (with_reducible exact spec_DrawBestWay.mono _ _)
   | (with_reducible exact spec_DrawCrossingsOf.mono _ _)
   | (with_reducible exact spec_DrawFirstCrossing.mono _ _)
   | (with_reducible exact spec_FewestCrossings.mono _ _ _ _ _)
   | (with_reducible exact spec_FirstCrossing.mono _ _ _ _ _ _)
   | (with_reducible exact spec_SameWay.mono _ _ _)
   | (with_reducible exact LeO.refl _)
   | (with_reducible exact LeO.none _)
   | (with_reducible refine LeO.ite ?_ ?_)
   | (with_reducible refine LeO.bind ?_ (fun _ => ?_))
   | exact ih0 _ _ _ _ _ _ _ _ _ _ _ _ _ _ _ _ _ _ _ _
   | exact ih1 _ _ _ _ _ _ _ _ _ _ _ _ _ _
   | exact ih2 _ _ _ _ _ _ _ _ _ _ _ _ _
   | exact ih3 _ _ _ _ _ _ _ _ _
   | exact impl_BestWay.mono _ _ _ _ _
   | exact impl_CrossingsOf.mono _ _ _ _ _ _
   | exact impl_FewestCrossings.mono _ _ _ _ _
   | exact impl_FirstCrossing.mono _ _ _ _ _ _
   | exact spec_BestWay.mono _ _ _ _ _
   | exact spec_CrossingsOf.mono _ _ _ _ _ _
   | exact spec_DrawBestWay.mono _ _
   | exact spec_DrawCrossingsOf.mono _ _
   | exact spec_DrawFirstCrossing.mono _ _
   | exact spec_FewestCrossings.mono _ _ _ _ _
   | exact spec_FirstCrossing.mono _ _ _ _ _ _
   | exact spec_SameWay.mono _ _ _
   | exact LeO.none _
   | refine LeO.ite ?_ ?_
   | refine LeO.bind ?_ (fun _ => ?_)
def laws_FnCrossings.T20 : Bool × List (List Nat × List Nat) := (true, [([], []), ([], []), ([], []), ([2], [2]), ([3], [3]), ([1, 4], [1, 4]), ([5], [5]), ([6], [6]), ([0, 7], [0, 7]), ([8], [8]), ([9], [9]), ([9], [9]), ([10, 8, 0, 1, 2, 3, 4, 5, 6, 7, 8, 9, 10], [10]), ([11, 12, 0, 1, 2, 3, 4, 5, 6, 7, 8, 9, 10, 11, 12], [11])])
def laws_FnCrossings.B20 : List Nat := [0, 0, 0, 4, 12, 30, 62, 126, 255, 511, 1023, 1023, 2047, 8191]
theorem laws_FnCrossings.tab20 : rtab .any (opsOf Try.f6 20) = laws_FnCrossings.T20 := by kernel_rfl
theorem laws_FnCrossings.bits20 : waitsOk laws_FnCrossings.T20.2 laws_FnCrossings.B20 = true := by kernel_rfl
set_option maxHeartbeats 8000000 in
set_option maxRecDepth 100000 in
theorem laws_FnCrossings.calls (k : Nat) (A0 : Option Addr) (c0 : Nat) (l0 : List Int) (r : Bool) (w : World) (hr0 : Kd.C (Kd.int .u8) w A0 l0.length l0) (hc0 : l0.length ≤ c0) (h : laws_FnCrossings.f k l0 = some r) :
  Calls Try.prog 6 #[.slice A0 l0.length c0] w fun e w' => e = .returned (.bool r) ∧ Below w.heap.size w w' := by
 have hu26 := Try.underlying26; have HR0 := A' hr0; have HC0 := A' hc0; clear hr0 hc0; have HB := A' (Below.refl w.heap.size w); have H : ((laws_f6big.f l0).bind fun t478 => (if t478 = true then (some true) else ((spec_DrawBestWay.f k l0).bind fun bt479 => ((impl_BestWay.f k bt479.1 bt479.2.1 bt479.2.2.1 bt479.2.2.2).bind fun bt484 => ((spec_BestWay.f k bt479.1 bt479.2.1 bt479.2.2.1 bt479.2.2.2).bind fun bt488 => ((impl_FewestCrossings.f k bt479.1 bt479.2.1 bt479.2.2.1 bt479.2.2.2).bind fun bt492 => ((spec_FewestCrossings.f k bt479.1 bt479.2.1 bt479.2.2.1 bt479.2.2.2).bind fun bt494 => ((spec_DrawCrossingsOf.f k l0).bind fun bt496 => ((impl_CrossingsOf.f k bt496.1 bt496.2.1 bt496.2.2.1 bt496.2.2.2.1 bt496.2.2.2.2).bind fun bt504 => ((spec_CrossingsOf.f k bt496.1 bt496.2.1 bt496.2.2.1 bt496.2.2.2.1 bt496.2.2.2.2).bind fun bt506 => ((spec_DrawFirstCrossing.f k l0).bind fun bt508 => ((impl_FirstCrossing.f k bt508.1 bt508.2.1 bt508.2.2.1 bt508.2.2.2.1 bt508.2.2.2.2).bind fun bt516 => ((spec_FirstCrossing.f k bt508.1 bt508.2.1 bt508.2.2.1 bt508.2.2.2.1 bt508.2.2.2.2).bind fun bt519 => (if bt484.2 = bt488.2 then ((spec_SameWay.f k bt484.1 bt488.1).bind fun t522 => (if t522 = true then (if bt492.2 = bt494.2 then (if bt492.1 = bt494.1 then (if bt504.2 = bt506.2 then (if bt504.1 = bt506.1 then (if bt516.2.2 = bt519.2.2 then (if bt516.1 = bt519.1 then (if bt516.2.1 = bt519.2.1 then (laws_FnCrossings.j0 k bt479.2.2.2 bt484.1 bt484.2 bt488.1 bt494.1 bt496.2.2.2.1 bt504.2 bt508.2.2.2.1 bt508.2.2.2.2 bt516.2.2 (bt492.2 != bt484.2) bt479.1 bt479.2.1 bt479.2.2.1 bt496.1 bt496.2.1 bt496.2.2.1 bt508.1 bt508.2.1 bt508.2.2.1) else (laws_FnCrossings.j0 k bt479.2.2.2 bt484.1 bt484.2 bt488.1 bt494.1 bt496.2.2.2.1 bt504.2 bt508.2.2.2.1 bt508.2.2.2.2 bt516.2.2 true bt479.1 bt479.2.1 bt479.2.2.1 bt496.1 bt496.2.1 bt496.2.2.1 bt508.1 bt508.2.1 bt508.2.2.1)) else (laws_FnCrossings.j0 k bt479.2.2.2 bt484.1 bt484.2 bt488.1 bt494.1 bt496.2.2.2.1 bt504.2 bt508.2.2.2.1 bt508.2.2.2.2 bt516.2.2 true bt479.1 bt479.2.1 bt479.2.2.1 bt496.1 bt496.2.1 bt496.2.2.1 bt508.1 bt508.2.1 bt508.2.2.1)) else (laws_FnCrossings.j0 k bt479.2.2.2 bt484.1 bt484.2 bt488.1 bt494.1 bt496.2.2.2.1 bt504.2 bt508.2.2.2.1 bt508.2.2.2.2 bt516.2.2 true bt479.1 bt479.2.1 bt479.2.2.1 bt496.1 bt496.2.1 bt496.2.2.1 bt508.1 bt508.2.1 bt508.2.2.1)) else (laws_FnCrossings.j0 k bt479.2.2.2 bt484.1 bt484.2 bt488.1 bt494.1 bt496.2.2.2.1 bt504.2 bt508.2.2.2.1 bt508.2.2.2.2 bt516.2.2 true bt479.1 bt479.2.1 bt479.2.2.1 bt496.1 bt496.2.1 bt496.2.2.1 bt508.1 bt508.2.1 bt508.2.2.1)) else (laws_FnCrossings.j0 k bt479.2.2.2 bt484.1 bt484.2 bt488.1 bt494.1 bt496.2.2.2.1 bt504.2 bt508.2.2.2.1 bt508.2.2.2.2 bt516.2.2 true bt479.1 bt479.2.1 bt479.2.2.1 bt496.1 bt496.2.1 bt496.2.2.1 bt508.1 bt508.2.1 bt508.2.2.1)) else (laws_FnCrossings.j0 k bt479.2.2.2 bt484.1 bt484.2 bt488.1 bt494.1 bt496.2.2.2.1 bt504.2 bt508.2.2.2.1 bt508.2.2.2.2 bt516.2.2 true bt479.1 bt479.2.1 bt479.2.2.1 bt496.1 bt496.2.1 bt496.2.2.1 bt508.1 bt508.2.1 bt508.2.2.1)) else (laws_FnCrossings.j0 k bt479.2.2.2 bt484.1 bt484.2 bt488.1 bt494.1 bt496.2.2.2.1 bt504.2 bt508.2.2.2.1 bt508.2.2.2.2 bt516.2.2 true bt479.1 bt479.2.1 bt479.2.2.1 bt496.1 bt496.2.1 bt496.2.2.1 bt508.1 bt508.2.1 bt508.2.2.1)) else (laws_FnCrossings.j0 k bt479.2.2.2 bt484.1 bt484.2 bt488.1 bt494.1 bt496.2.2.2.1 bt504.2 bt508.2.2.2.1 bt508.2.2.2.2 bt516.2.2 true bt479.1 bt479.2.1 bt479.2.2.1 bt496.1 bt496.2.1 bt496.2.2.1 bt508.1 bt508.2.1 bt508.2.2.1))) else (laws_FnCrossings.j0 k bt479.2.2.2 bt484.1 bt484.2 bt488.1 bt494.1 bt496.2.2.2.1 bt504.2 bt508.2.2.2.1 bt508.2.2.2.2 bt516.2.2 true bt479.1 bt479.2.1 bt479.2.2.1 bt496.1 bt496.2.1 bt496.2.2.1 bt508.1 bt508.2.1 bt508.2.2.1))))))))))))))) = some r := h; clear h; replace H := Option.bind_eq_some_iff.mp H; obtain ⟨t478, A20, H⟩ := H; (try dsimp only at H); have A2 := A' A20; clear A20
 by_cases c3 : t478 = true
 ·subst c3; have H1 : (some true) = some r := by rw [if_pos rfl] at H; exact H
  clear H; have H := H1; clear H1; obtain rfl := Option.some.inj H; go_enter Try.func6, Try.ntmps6; go_wp2_with (first | ((with_reducible refine gate_callee (f := 22) rfl ?_); refine goesL_ (some 38) rfl rfl Try.func22 (by kernel_rfl) rfl #[.slice A0 l0.length c0] rfl (by (try simp only [List.map_toArray, List.map_cons, List.map_nil]); first | done | rfl | (simp only [List.length_drop, List.length_take]; rfl)) ?_; (with_reducible refine (laws_f6big.calls _ _ l0 true _ ?side1 ?side2 A2.out).mono ?_); (case side1 => exact qT HR0.out); (case side2 => exact HC0.out); rintro e w' ⟨rfl, ⟨nd, rfl⟩⟩; refine ⟨_, rfl, ?_⟩)); go_ret; exact ⟨qE, qK0 HB.out⟩
 ·replace c3 := Bool.eq_false_iff.mpr c3; subst c3; have H1 : ((spec_DrawBestWay.f k l0).bind fun bt479 => ((impl_BestWay.f k bt479.1 bt479.2.1 bt479.2.2.1 bt479.2.2.2).bind fun bt484 => ((spec_BestWay.f k bt479.1 bt479.2.1 bt479.2.2.1 bt479.2.2.2).bind fun bt488 => ((impl_FewestCrossings.f k bt479.1 bt479.2.1 bt479.2.2.1 bt479.2.2.2).bind fun bt492 => ((spec_FewestCrossings.f k bt479.1 bt479.2.1 bt479.2.2.1 bt479.2.2.2).bind fun bt494 => ((spec_DrawCrossingsOf.f k l0).bind fun bt496 => ((impl_CrossingsOf.f k bt496.1 bt496.2.1 bt496.2.2.1 bt496.2.2.2.1 bt496.2.2.2.2).bind fun bt504 => ((spec_CrossingsOf.f k bt496.1 bt496.2.1 bt496.2.2.1 bt496.2.2.2.1 bt496.2.2.2.2).bind fun bt506 => ((spec_DrawFirstCrossing.f k l0).bind fun bt508 => ((impl_FirstCrossing.f k bt508.1 bt508.2.1 bt508.2.2.1 bt508.2.2.2.1 bt508.2.2.2.2).bind fun bt516 => ((spec_FirstCrossing.f k bt508.1 bt508.2.1 bt508.2.2.1 bt508.2.2.2.1 bt508.2.2.2.2).bind fun bt519 => (if bt484.2 = bt488.2 then ((spec_SameWay.f k bt484.1 bt488.1).bind fun t522 => (if t522 = true then (if bt492.2 = bt494.2 then (if bt492.1 = bt494.1 then (if bt504.2 = bt506.2 then (if bt504.1 = bt506.1 then (if bt516.2.2 = bt519.2.2 then (if bt516.1 = bt519.1 then (if bt516.2.1 = bt519.2.1 then (laws_FnCrossings.j0 k bt479.2.2.2 bt484.1 bt484.2 bt488.1 bt494.1 bt496.2.2.2.1 bt504.2 bt508.2.2.2.1 bt508.2.2.2.2 bt516.2.2 (bt492.2 != bt484.2) bt479.1 bt479.2.1 bt479.2.2.1 bt496.1 bt496.2.1 bt496.2.2.1 bt508.1 bt508.2.1 bt508.2.2.1) else (laws_FnCrossings.j0 k bt479.2.2.2 bt484.1 bt484.2 bt488.1 bt494.1 bt496.2.2.2.1 bt504.2 bt508.2.2.2.1 bt508.2.2.2.2 bt516.2.2 true bt479.1 bt479.2.1 bt479.2.2.1 bt496.1 bt496.2.1 bt496.2.2.1 bt508.1 bt508.2.1 bt508.2.2.1)) else (laws_FnCrossings.j0 k bt479.2.2.2 bt484.1 bt484.2 bt488.1 bt494.1 bt496.2.2.2.1 bt504.2 bt508.2.2.2.1 bt508.2.2.2.2 bt516.2.2 true bt479.1 bt479.2.1 bt479.2.2.1 bt496.1 bt496.2.1 bt496.2.2.1 bt508.1 bt508.2.1 bt508.2.2.1)) else (laws_FnCrossings.j0 k bt479.2.2.2 bt484.1 bt484.2 bt488.1 bt494.1 bt496.2.2.2.1 bt504.2 bt508.2.2.2.1 bt508.2.2.2.2 bt516.2.2 true bt479.1 bt479.2.1 bt479.2.2.1 bt496.1 bt496.2.1 bt496.2.2.1 bt508.1 bt508.2.1 bt508.2.2.1)) else (laws_FnCrossings.j0 k bt479.2.2.2 bt484.1 bt484.2 bt488.1 bt494.1 bt496.2.2.2.1 bt504.2 bt508.2.2.2.1 bt508.2.2.2.2 bt516.2.2 true bt479.1 bt479.2.1 bt479.2.2.1 bt496.1 bt496.2.1 bt496.2.2.1 bt508.1 bt508.2.1 bt508.2.2.1)) else (laws_FnCrossings.j0 k bt479.2.2.2 bt484.1 bt484.2 bt488.1 bt494.1 bt496.2.2.2.1 bt504.2 bt508.2.2.2.1 bt508.2.2.2.2 bt516.2.2 true bt479.1 bt479.2.1 bt479.2.2.1 bt496.1 bt496.2.1 bt496.2.2.1 bt508.1 bt508.2.1 bt508.2.2.1)) else (laws_FnCrossings.j0 k bt479.2.2.2 bt484.1 bt484.2 bt488.1 bt494.1 bt496.2.2.2.1 bt504.2 bt508.2.2.2.1 bt508.2.2.2.2 bt516.2.2 true bt479.1 bt479.2.1 bt479.2.2.1 bt496.1 bt496.2.1 bt496.2.2.1 bt508.1 bt508.2.1 bt508.2.2.1)) else (laws_FnCrossings.j0 k bt479.2.2.2 bt484.1 bt484.2 bt488.1 bt494.1 bt496.2.2.2.1 bt504.2 bt508.2.2.2.1 bt508.2.2.2.2 bt516.2.2 true bt479.1 bt479.2.1 bt479.2.2.1 bt496.1 bt496.2.1 bt496.2.2.1 bt508.1 bt508.2.1 bt508.2.2.1)) else (laws_FnCrossings.j0 k bt479.2.2.2 bt484.1 bt484.2 bt488.1 bt494.1 bt496.2.2.2.1 bt504.2 bt508.2.2.2.1 bt508.2.2.2.2 bt516.2.2 true bt479.1 bt479.2.1 bt479.2.2.1 bt496.1 bt496.2.1 bt496.2.2.1 bt508.1 bt508.2.1 bt508.2.2.1))) else (laws_FnCrossings.j0 k bt479.2.2.2 bt484.1 bt484.2 bt488.1 bt494.1 bt496.2.2.2.1 bt504.2 bt508.2.2.2.1 bt508.2.2.2.2 bt516.2.2 true bt479.1 bt479.2.1 bt479.2.2.1 bt496.1 bt496.2.1 bt496.2.2.1 bt508.1 bt508.2.1 bt508.2.2.1))))))))))))) = some r := by rw [if_neg (show ¬ (false = true) by decide)] at H; exact H
  clear H; have H := H1; clear H1; replace H := Option.bind_eq_some_iff.mp H; obtain ⟨⟨t479, t480, t481, t482⟩, A40, H⟩ := H; (try dsimp only at H); have A4 := A' A40; clear A40; replace H := Option.bind_eq_some_iff.mp H; obtain ⟨⟨t484, t487⟩, A50, H⟩ := H; (try dsimp only at H); have A5 := A' A50; clear A50; replace H := Option.bind_eq_some_iff.mp H; obtain ⟨⟨t488, t491⟩, A60, H⟩ := H; (try dsimp only at H); have A6 := A' A60; clear A60; replace H := Option.bind_eq_some_iff.mp H; obtain ⟨⟨t492, t493⟩, A70, H⟩ := H; (try dsimp only at H); have A7 := A' A70; clear A70; replace H := Option.bind_eq_some_iff.mp H; obtain ⟨⟨t494, t495⟩, A80, H⟩ := H; (try dsimp only at H); have A8 := A' A80; clear A80; replace H := Option.bind_eq_some_iff.mp H; obtain ⟨⟨t496, t497, t498, t499, t502⟩, A90, H⟩ := H; (try dsimp only at H); have A9 := A' A90; clear A90; replace H := Option.bind_eq_some_iff.mp H; obtain ⟨⟨t504, t505⟩, A100, H⟩ := H; (try dsimp only at H); have A10 := A' A100; clear A100; replace H := Option.bind_eq_some_iff.mp H; obtain ⟨⟨t506, t507⟩, A110, H⟩ := H; (try dsimp only at H); have A11 := A' A110; clear A110; replace H := Option.bind_eq_some_iff.mp H; obtain ⟨⟨t508, t509, t510, t511, t514⟩, A120, H⟩ := H; (try dsimp only at H); have A12 := A' A120; clear A120; replace H := Option.bind_eq_some_iff.mp H; obtain ⟨⟨t516, t517, t518⟩, A130, H⟩ := H; (try dsimp only at H); have A13 := A' A130; clear A130; replace H := Option.bind_eq_some_iff.mp H; obtain ⟨⟨t519, t520, t521⟩, A140, H⟩ := H; (try dsimp only at H); have A14 := A' A140; clear A140; have HC15 := A' H; clear H; go_enter Try.func6, Try.ntmps6; go_upto_region 14 with (first | ((with_reducible refine gate_callee (f := 22) rfl ?_); refine goesL_ (some 38) rfl rfl Try.func22 (by kernel_rfl) rfl #[.slice A0 l0.length c0] rfl (by (try simp only [List.map_toArray, List.map_cons, List.map_nil]); first | done | rfl | (simp only [List.length_drop, List.length_take]; rfl)) ?_; (with_reducible refine (laws_f6big.calls _ _ l0 false _ ?side1 ?side2 A2.out).mono ?_); (case side1 => exact qT HR0.out); (case side2 => exact HC0.out); rintro e w' ⟨rfl, ⟨nd, rfl⟩⟩; refine ⟨_, rfl, ?_⟩) | ((with_reducible refine gate_callee (f := 23) rfl ?_); refine goesL_ (some 41) rfl rfl Try.func23 (by kernel_rfl) rfl #[.slice A0 l0.length c0] rfl (by (try simp only [List.map_toArray, List.map_cons, List.map_nil]); first | done | rfl | (simp only [List.length_drop, List.length_take]; rfl)) ?_; (with_reducible refine (spec_DrawBestWay.calls k _ _ l0 t479 t480 t481 t482 _ ?side1 ?side2 A4.out).mono ?_); (case side1 => exact qT HR0.out); (case side2 => exact HC0.out); rintro e w16 ⟨rfl, hb⟩; refine ⟨_, rfl, ?_⟩; have n0_ := A' (W' (qK0 HB.out) hb); clear HB; have HB := n0_; clear n0_; (try clear hb); (try clear hb2); (try clear hk); (try clear hi)) | ((with_reducible refine gate_dst (N := 3) rfl ?_); (try (refine gate_guard (by rfl) ?_; dsimp only)); refine box_event ?hg (N := 3) ?hd (cs := #[.int .i64 0, .int .i64 0, .bool false]) (t := 26) ?hr ?_; (case hd => rfl); (case hg => rfl); (case hr => first | (go_simp; done) | (go_simp; rfl)); intro gb483 hg w17 hbox hb; have n0_ := A' (W' (qK0 HB.out) hb); have n1_ := A' (hbox); have n2_ := A' ((by rw [hg]; exact (V' (qK0 HB.out)) : w.heap.size ≤ gb483)); have n3_ := A' ((by rw [hg]; exact (V' (qK0 HB.out)) : w.heap.size ≤ gb483)); clear HB; have HB := n0_; have BK483 := n1_; have GW483 := n2_; have GE483 := n3_; clear n0_ n1_ n2_ n3_; clear hb hbox hg; have hcz18_0 : w17.cell? ⟨gb483, 0, none⟩ = some (.int .i64 0) := (N' BK483.out 0).trans rfl; have hcz18_1 : w17.cell? ⟨gb483, 1, none⟩ = some (.int .i64 0) := (N' BK483.out 1).trans rfl; have hcz18_2 : w17.cell? ⟨gb483, 2, none⟩ = some (.bool false) := (N' BK483.out 2).trans rfl; have hfz18_0 := Y' BK483.out 0; have hfz18_1 := Y' BK483.out 1; have hfz18_2 := Y' BK483.out 2) | ((with_reducible refine gate_callee (f := 11) rfl ?_); refine goesL_ (some 47) rfl rfl Try.func11 (by kernel_rfl) rfl #[.agg #[.int .i64 t479, .int .i64 t480, .bool t481], .int .i64 t482] rfl (by (try simp only [List.map_toArray, List.map_cons, List.map_nil]); first | done | rfl | (simp only [List.length_drop, List.length_take]; rfl)) ?_; (with_reducible refine (impl_BestWay.calls k t479 t480 t481 t482 t484 t487 _ A5.out).mono ?_); rintro e w19 ⟨v485, rfl, ho0, hb⟩; refine ⟨_, rfl, ?_⟩; have n0_ := A' (Kd.R_lower ho0 (V' (qK1 HB.out GE483.out))); have n1_ := A' (O' (g := gb483) (o := .cells #[.int .i64 t479, .int .i64 t480, .bool t481] 26 (0, 0)) (by (with_reducible repeat (first | refine G' ?_ _ | refine I' ?_ | refine H' ?_ _)); refine blk_put (cs := #[.int .i64 t479, .int .i64 t480, .bool false]) ?_ 2 _ rfl; (with_reducible repeat (first | refine G' ?_ _ | refine I' ?_ | refine H' ?_ _)); refine blk_put (cs := #[.int .i64 t479, .int .i64 0, .bool false]) ?_ 1 _ rfl; (with_reducible repeat (first | refine G' ?_ _ | refine I' ?_ | refine H' ?_ _)); refine blk_put (cs := #[.int .i64 0, .int .i64 0, .bool false]) ?_ 0 _ rfl; (with_reducible repeat (first | refine G' ?_ _ | refine I' ?_ | refine H' ?_ _)); exact BK483.out) hb); have n2_ := A' (W' (qK1 HB.out GE483.out) hb); clear BK483; clear HB; have HO486 := n0_; have BK483 := n1_; have HB := n2_; clear n0_ n1_ n2_; (try clear hb); (try clear hb2); (try clear hk); (try clear hi); (try clear ho0); have hcz20_0 : w19.cell? ⟨gb483, 0, none⟩ = some (.int .i64 t479) := (N' BK483.out 0).trans rfl; have hcz20_1 : w19.cell? ⟨gb483, 1, none⟩ = some (.int .i64 t480) := (N' BK483.out 1).trans rfl; have hcz20_2 : w19.cell? ⟨gb483, 2, none⟩ = some (.bool t481) := (N' BK483.out 2).trans rfl; have hfz20_0 := Y' BK483.out 0; have hfz20_1 := Y' BK483.out 1; have hfz20_2 := Y' BK483.out 2) | ((with_reducible refine gate_callee (f := 10) rfl ?_); refine goesL_ (some 53) rfl rfl Try.func10 (by kernel_rfl) rfl #[.agg #[.int .i64 t479, .int .i64 t480, .bool t481], .int .i64 t482] rfl (by (try simp only [List.map_toArray, List.map_cons, List.map_nil]); first | done | rfl | (simp only [List.length_drop, List.length_take]; rfl)) ?_; (with_reducible refine (spec_BestWay.calls k t479 t480 t481 t482 t488 t491 _ A6.out).mono ?_); rintro e w21 ⟨v489, rfl, ho0, hb⟩; refine ⟨_, rfl, ?_⟩; have n0_ := A' (Kd.R_elder' (qR HO486.out) (Kd.R_base ho0) hb); have n1_ := A' (Kd.R_lower (U' ho0 (Kd.R_lt (qR HO486.out))) (V' (qK1 HB.out GE483.out))); have n2_ := A' (O' (g := gb483) (qB BK483.out) hb); have n3_ := A' (W' (qK1 HB.out GE483.out) hb); clear HO486; clear BK483; clear HB; have HO486 := n0_; have HO490 := n1_; have BK483 := n2_; have HB := n3_; clear n0_ n1_ n2_ n3_; (try clear hb); (try clear hb2); (try clear hk); (try clear hi); (try clear ho0); have hcz22_0 : w21.cell? ⟨gb483, 0, none⟩ = some (.int .i64 t479) := (N' BK483.out 0).trans rfl; have hcz22_1 : w21.cell? ⟨gb483, 1, none⟩ = some (.int .i64 t480) := (N' BK483.out 1).trans rfl; have hcz22_2 : w21.cell? ⟨gb483, 2, none⟩ = some (.bool t481) := (N' BK483.out 2).trans rfl; have hfz22_0 := Y' BK483.out 0; have hfz22_1 := Y' BK483.out 1; have hfz22_2 := Y' BK483.out 2) | ((with_reducible refine gate_callee (f := 9) rfl ?_); refine goesL_ (some 59) rfl rfl Try.func9 (by kernel_rfl) rfl #[.agg #[.int .i64 t479, .int .i64 t480, .bool t481], .int .i64 t482] rfl (by (try simp only [List.map_toArray, List.map_cons, List.map_nil]); first | done | rfl | (simp only [List.length_drop, List.length_take]; rfl)) ?_; (with_reducible refine (impl_FewestCrossings.calls k t479 t480 t481 t482 t492 t493 _ A7.out).mono ?_); rintro e w23 ⟨rfl, hb⟩; refine ⟨_, rfl, ?_⟩; have n0_ := A' (L' (qR HO486.out) hb); have n1_ := A' (L' (qR HO490.out) hb); have n2_ := A' (O' (g := gb483) (qB BK483.out) hb); have n3_ := A' (W' (qK1 HB.out GE483.out) hb); clear HO486; clear HO490; clear BK483; clear HB; have HO486 := n0_; have HO490 := n1_; have BK483 := n2_; have HB := n3_; clear n0_ n1_ n2_ n3_; (try clear hb); (try clear hb2); (try clear hk); (try clear hi); have hcz24_0 : w23.cell? ⟨gb483, 0, none⟩ = some (.int .i64 t479) := (N' BK483.out 0).trans rfl; have hcz24_1 : w23.cell? ⟨gb483, 1, none⟩ = some (.int .i64 t480) := (N' BK483.out 1).trans rfl; have hcz24_2 : w23.cell? ⟨gb483, 2, none⟩ = some (.bool t481) := (N' BK483.out 2).trans rfl; have hfz24_0 := Y' BK483.out 0; have hfz24_1 := Y' BK483.out 1; have hfz24_2 := Y' BK483.out 2) | ((with_reducible refine gate_callee (f := 7) rfl ?_); refine goesL_ (some 65) rfl rfl Try.func7 (by kernel_rfl) rfl #[.agg #[.int .i64 t479, .int .i64 t480, .bool t481], .int .i64 t482] rfl (by (try simp only [List.map_toArray, List.map_cons, List.map_nil]); first | done | rfl | (simp only [List.length_drop, List.length_take]; rfl)) ?_; (with_reducible refine (spec_FewestCrossings.calls k t479 t480 t481 t482 t494 t495 _ A8.out).mono ?_); rintro e w25 ⟨rfl, hb⟩; refine ⟨_, rfl, ?_⟩; have n0_ := A' (L' (qR HO486.out) hb); have n1_ := A' (L' (qR HO490.out) hb); have n2_ := A' (O' (g := gb483) (qB BK483.out) hb); have n3_ := A' (W' (qK1 HB.out GE483.out) hb); clear HO486; clear HO490; clear BK483; clear HB; have HO486 := n0_; have HO490 := n1_; have BK483 := n2_; have HB := n3_; clear n0_ n1_ n2_ n3_; (try clear hb); (try clear hb2); (try clear hk); (try clear hi)) | ((with_reducible refine gate_callee (f := 24) rfl ?_); refine goesL_ (some 70) rfl rfl Try.func24 (by kernel_rfl) rfl #[.slice A0 l0.length c0] rfl (by (try simp only [List.map_toArray, List.map_cons, List.map_nil]); first | done | rfl | (simp only [List.length_drop, List.length_take]; rfl)) ?_; (with_reducible refine (spec_DrawCrossingsOf.calls k _ _ l0 t496 t497 t498 t499 t502 _ ?side1 ?side2 A9.out).mono ?_); (case side1 => exact qT (X' HR0.out HB.out)); (case side2 => exact HC0.out); rintro e w26 ⟨v500, rfl, ho0, hb⟩; refine ⟨_, rfl, ?_⟩; have n0_ := A' (Kd.R_elder' (qR HO486.out) (Kd.R_base ho0) hb); have n1_ := A' (Kd.R_elder' (qR HO490.out) (Kd.R_base ho0) hb); have n2_ := A' (Kd.R_lower (U' (U' ho0 (Kd.R_lt (qR HO486.out))) (Kd.R_lt (qR HO490.out))) (V' (qK1 HB.out GE483.out))); have n3_ := A' (O' (g := gb483) (qB BK483.out) hb); have n4_ := A' (W' (qK1 HB.out GE483.out) hb); clear HO486; clear HO490; clear BK483; clear HB; have HO486 := n0_; have HO490 := n1_; have HO501 := n2_; have BK483 := n3_; have HB := n4_; clear n0_ n1_ n2_ n3_ n4_; (try clear hb); (try clear hb2); (try clear hk); (try clear hi); (try clear ho0)) | ((with_reducible refine gate_dst (N := 13) rfl ?_); (try (refine gate_guard (by rfl) ?_; dsimp only)); refine box_event ?hg (N := 13) ?hd (cs := #[.int .i64 0, .int .i64 0, .bool false]) (t := 26) ?hr ?_; (case hd => rfl); (case hg => rfl); (case hr => first | (go_simp; done) | (go_simp; rfl)); intro gb503 hg w27 hbox hb; have n0_ := A' (L' (qR HO486.out) hb); have n1_ := A' (L' (qR HO490.out) hb); have n2_ := A' (L' (qR HO501.out) hb); have n3_ := A' (O' (g := gb483) (qB BK483.out) hb); have n4_ := A' (W' (qK1 HB.out GE483.out) hb); have n5_ := A' (hbox); have n6_ := A' ((by rw [hg]; exact (V' (qK1 HB.out GE483.out)) : w.heap.size ≤ gb503)); have n7_ := A' ((by rw [hg]; exact (V' (qK1 HB.out GE483.out)) : w.heap.size ≤ gb503)); have n8_ := A' ((by rw [hg]; exact Nat.ne_of_lt (bL' (g := gb483) (qB BK483.out)) : gb483 ≠ gb503)); have n9_ := A' ((by rw [hg]; exact Nat.ne_of_gt (bL' (g := gb483) (qB BK483.out)) : gb503 ≠ gb483)); clear HO486; clear HO490; clear HO501; clear BK483; clear HB; have HO486 := n0_; have HO490 := n1_; have HO501 := n2_; have BK483 := n3_; have HB := n4_; have BK503 := n5_; have GW503 := n6_; have GE503 := n7_; have NB483_503 := n8_; have NB503_483 := n9_; clear n0_ n1_ n2_ n3_ n4_ n5_ n6_ n7_ n8_ n9_; clear hb hbox hg; have hnb28 := NB503_483.out; have hnc28 := NB483_503.out; have hcz29_0 : w27.cell? ⟨gb503, 0, none⟩ = some (.int .i64 0) := (N' BK503.out 0).trans rfl; have hcz29_1 : w27.cell? ⟨gb503, 1, none⟩ = some (.int .i64 0) := (N' BK503.out 1).trans rfl; have hcz29_2 : w27.cell? ⟨gb503, 2, none⟩ = some (.bool false) := (N' BK503.out 2).trans rfl; have hfz29_0 := Y' BK503.out 0; have hfz29_1 := Y' BK503.out 1; have hfz29_2 := Y' BK503.out 2; obtain ⟨Ao30, co30, eo30⟩ := Kd.R_slice HO501.out; subst eo30) | ((with_reducible refine gate_callee (f := 25) rfl ?_); refine goesL_ (some 78) rfl rfl Try.func25 (by kernel_rfl) rfl #[.agg #[.int .i64 t496, .int .i64 t497, .bool t498], .slice Ao30 t499.length co30, .bool t502] rfl (by (try simp only [List.map_toArray, List.map_cons, List.map_nil]); first | done | rfl | (simp only [List.length_drop, List.length_take]; rfl)) ?_; (with_reducible refine (impl_CrossingsOf.calls k t496 t497 t498 _ _ t499 t502 t504 t505 _ ?side1 ?side2 A10.out).mono ?_); (case side1 => refine (Kd.R_reads' (e := 53) (base := w.heap.size) (ok := fun k_ => ((True ∧ some k_ ≠ (v485 : Value).ownBlock) ∧ some k_ ≠ (v489 : Value).ownBlock)) (n := t499.length) (c := co30) ?_).2.2; exact (by (with_reducible repeat (first | apply B' | apply C' | apply D')); exact (Q' (M' (p := ⟨gb503, 2, none⟩) (M' (p := ⟨gb503, 1, none⟩) (M' (p := ⟨gb503, 0, none⟩) (P' HO501.out BK503.out (by decide)) (fun _ hk => hk.2) (.int .i64 t496)) (fun _ hk => hk.2) (.int .i64 t497)) (fun _ hk => hk.2) (.bool t498)) (fun _ h_ => h_.1)))); (case side2 => exact (Kd.R_reads' HO501.out).2.1); rintro e w31 ⟨rfl, hb⟩; refine ⟨_, rfl, ?_⟩; have n0_ := A' (L' (by (with_reducible repeat (first | apply B' | apply C' | apply D')); exact (Q' (M' (p := ⟨gb503, 2, none⟩) (M' (p := ⟨gb503, 1, none⟩) (M' (p := ⟨gb503, 0, none⟩) (P' HO486.out BK503.out (by decide)) (fun _ hk => hk.2) (.int .i64 t496)) (fun _ hk => hk.2) (.int .i64 t497)) (fun _ hk => hk.2) (.bool t498)) (fun _ h_ => h_.1))) hb); have n1_ := A' (L' (by (with_reducible repeat (first | apply B' | apply C' | apply D')); exact (Q' (M' (p := ⟨gb503, 2, none⟩) (M' (p := ⟨gb503, 1, none⟩) (M' (p := ⟨gb503, 0, none⟩) (P' HO490.out BK503.out (by decide)) (fun _ hk => hk.2) (.int .i64 t496)) (fun _ hk => hk.2) (.int .i64 t497)) (fun _ hk => hk.2) (.bool t498)) (fun _ h_ => h_.1))) hb); have n2_ := A' (L' (by (with_reducible repeat (first | apply B' | apply C' | apply D')); exact (Q' (M' (p := ⟨gb503, 2, none⟩) (M' (p := ⟨gb503, 1, none⟩) (M' (p := ⟨gb503, 0, none⟩) (P' HO501.out BK503.out (by decide)) (fun _ hk => hk.2) (.int .i64 t496)) (fun _ hk => hk.2) (.int .i64 t497)) (fun _ hk => hk.2) (.bool t498)) (fun _ h_ => h_.1))) hb); have n3_ := A' (O' (g := gb483) (o := .cells #[.int .i64 t479, .int .i64 t480, .bool t481] 26 (0, 0)) (qG3 BK483.out NB483_503.out NB483_503.out NB483_503.out) hb); have n4_ := A' (O' (g := gb503) (o := .cells #[.int .i64 t496, .int .i64 t497, .bool t498] 26 (0, 0)) (by (with_reducible repeat (first | refine G' ?_ _ | refine I' ?_ | refine H' ?_ _)); refine blk_put (cs := #[.int .i64 t496, .int .i64 t497, .bool false]) ?_ 2 _ rfl; (with_reducible repeat (first | refine G' ?_ _ | refine I' ?_ | refine H' ?_ _)); refine blk_put (cs := #[.int .i64 t496, .int .i64 0, .bool false]) ?_ 1 _ rfl; (with_reducible repeat (first | refine G' ?_ _ | refine I' ?_ | refine H' ?_ _)); refine blk_put (cs := #[.int .i64 0, .int .i64 0, .bool false]) ?_ 0 _ rfl; (with_reducible repeat (first | refine G' ?_ _ | refine I' ?_ | refine H' ?_ _)); exact BK503.out) hb); have n5_ := A' (W' (qK2 HB.out GE483.out GE503.out) hb); clear HO486; clear HO490; clear HO501; clear BK483; clear BK503; clear HB; have HO486 := n0_; have HO490 := n1_; have HO501 := n2_; have BK483 := n3_; have BK503 := n4_; have HB := n5_; clear n0_ n1_ n2_ n3_ n4_ n5_; (try clear hb); (try clear hb2); (try clear hk); (try clear hi); have hcz32_0 : w31.cell? ⟨gb503, 0, none⟩ = some (.int .i64 t496) := (N' BK503.out 0).trans rfl; have hcz32_1 : w31.cell? ⟨gb503, 1, none⟩ = some (.int .i64 t497) := (N' BK503.out 1).trans rfl; have hcz32_2 : w31.cell? ⟨gb503, 2, none⟩ = some (.bool t498) := (N' BK503.out 2).trans rfl; have hfz32_0 := Y' BK503.out 0; have hfz32_1 := Y' BK503.out 1; have hfz32_2 := Y' BK503.out 2) | ((with_reducible refine gate_callee (f := 26) rfl ?_); refine goesL_ (some 85) rfl rfl Try.func26 (by kernel_rfl) rfl #[.agg #[.int .i64 t496, .int .i64 t497, .bool t498], .slice Ao30 t499.length co30, .bool t502] rfl (by (try simp only [List.map_toArray, List.map_cons, List.map_nil]); first | done | rfl | (simp only [List.length_drop, List.length_take]; rfl)) ?_; (with_reducible refine (spec_CrossingsOf.calls k t496 t497 t498 _ _ t499 t502 t506 t507 _ ?side1 ?side2 A11.out).mono ?_); (case side1 => repeat (first | exact (Kd.R_reads' HO501.out).2.2 | (with_reducible refine R' ?_ _) | (with_reducible refine S' ?_ _) | (with_reducible refine T' ?_))); (case side2 => exact (Kd.R_reads' HO501.out).2.1); rintro e w33 ⟨rfl, hb⟩; refine ⟨_, rfl, ?_⟩; have n0_ := A' (L' (qR HO486.out) hb); have n1_ := A' (L' (qR HO490.out) hb); have n2_ := A' (L' (qR HO501.out) hb); have n3_ := A' (O' (g := gb483) (qB BK483.out) hb); have n4_ := A' (O' (g := gb503) (qB BK503.out) hb); have n5_ := A' (W' (qK2 HB.out GE483.out GE503.out) hb); clear HO486; clear HO490; clear HO501; clear BK483; clear BK503; clear HB; have HO486 := n0_; have HO490 := n1_; have HO501 := n2_; have BK483 := n3_; have BK503 := n4_; have HB := n5_; clear n0_ n1_ n2_ n3_ n4_ n5_; (try clear hb); (try clear hb2); (try clear hk); (try clear hi)) | ((with_reducible refine gate_callee (f := 27) rfl ?_); refine goesL_ (some 90) rfl rfl Try.func27 (by kernel_rfl) rfl #[.slice A0 l0.length c0] rfl (by (try simp only [List.map_toArray, List.map_cons, List.map_nil]); first | done | rfl | (simp only [List.length_drop, List.length_take]; rfl)) ?_; (with_reducible refine (spec_DrawFirstCrossing.calls k _ _ l0 t508 t509 t510 t511 t514 _ ?side1 ?side2 A12.out).mono ?_); (case side1 => exact qT (X' HR0.out HB.out)); (case side2 => exact HC0.out); rintro e w34 ⟨v512, rfl, ho0, hb⟩; refine ⟨_, rfl, ?_⟩; have n0_ := A' (Kd.R_elder' (qR HO486.out) (Kd.R_base ho0) hb); have n1_ := A' (Kd.R_elder' (qR HO490.out) (Kd.R_base ho0) hb); have n2_ := A' (Kd.R_elder' (qR HO501.out) (Kd.R_base ho0) hb); have n3_ := A' (Kd.R_lower (U' (U' (U' ho0 (Kd.R_lt (qR HO486.out))) (Kd.R_lt (qR HO490.out))) (Kd.R_lt (qR HO501.out))) (V' (qK2 HB.out GE483.out GE503.out))); have n4_ := A' (O' (g := gb483) (qB BK483.out) hb); have n5_ := A' (O' (g := gb503) (qB BK503.out) hb); have n6_ := A' (W' (qK2 HB.out GE483.out GE503.out) hb); clear HO486; clear HO490; clear HO501; clear BK483; clear BK503; clear HB; have HO486 := n0_; have HO490 := n1_; have HO501 := n2_; have HO513 := n3_; have BK483 := n4_; have BK503 := n5_; have HB := n6_; clear n0_ n1_ n2_ n3_ n4_ n5_ n6_; (try clear hb); (try clear hb2); (try clear hk); (try clear hi); (try clear ho0)) | ((with_reducible refine gate_dst (N := 20) rfl ?_); (try (refine gate_guard (by rfl) ?_; dsimp only)); refine box_event ?hg (N := 20) ?hd (cs := #[.int .i64 0, .int .i64 0, .bool false]) (t := 26) ?hr ?_; (case hd => rfl); (case hg => rfl); (case hr => first | (go_simp; done) | (go_simp; rfl)); intro gb515 hg w35 hbox hb; have n0_ := A' (L' (qR HO486.out) hb); have n1_ := A' (L' (qR HO490.out) hb); have n2_ := A' (L' (qR HO501.out) hb); have n3_ := A' (L' (qR HO513.out) hb); have n4_ := A' (O' (g := gb483) (qB BK483.out) hb); have n5_ := A' (O' (g := gb503) (qB BK503.out) hb); have n6_ := A' (W' (qK2 HB.out GE483.out GE503.out) hb); have n7_ := A' (hbox); have n8_ := A' ((by rw [hg]; exact (V' (qK2 HB.out GE483.out GE503.out)) : w.heap.size ≤ gb515)); have n9_ := A' ((by rw [hg]; exact (V' (qK2 HB.out GE483.out GE503.out)) : w.heap.size ≤ gb515)); have n10_ := A' ((by rw [hg]; exact Nat.ne_of_lt (bL' (g := gb483) (qB BK483.out)) : gb483 ≠ gb515)); have n11_ := A' ((by rw [hg]; exact Nat.ne_of_gt (bL' (g := gb483) (qB BK483.out)) : gb515 ≠ gb483)); have n12_ := A' ((by rw [hg]; exact Nat.ne_of_lt (bL' (g := gb503) (qB BK503.out)) : gb503 ≠ gb515)); have n13_ := A' ((by rw [hg]; exact Nat.ne_of_gt (bL' (g := gb503) (qB BK503.out)) : gb515 ≠ gb503)); clear HO486; clear HO490; clear HO501; clear HO513; clear BK483; clear BK503; clear HB; have HO486 := n0_; have HO490 := n1_; have HO501 := n2_; have HO513 := n3_; have BK483 := n4_; have BK503 := n5_; have HB := n6_; have BK515 := n7_; have GW515 := n8_; have GE515 := n9_; have NB483_515 := n10_; have NB515_483 := n11_; have NB503_515 := n12_; have NB515_503 := n13_; clear n0_ n1_ n2_ n3_ n4_ n5_ n6_ n7_ n8_ n9_ n10_ n11_ n12_ n13_; clear hb hbox hg; have hnb36 := NB515_483.out; have hnc36 := NB483_515.out; have hnb37 := NB515_503.out; have hnc37 := NB503_515.out; have hcz38_0 : w35.cell? ⟨gb515, 0, none⟩ = some (.int .i64 0) := (N' BK515.out 0).trans rfl; have hcz38_1 : w35.cell? ⟨gb515, 1, none⟩ = some (.int .i64 0) := (N' BK515.out 1).trans rfl; have hcz38_2 : w35.cell? ⟨gb515, 2, none⟩ = some (.bool false) := (N' BK515.out 2).trans rfl; have hfz38_0 := Y' BK515.out 0; have hfz38_1 := Y' BK515.out 1; have hfz38_2 := Y' BK515.out 2; obtain ⟨Ao39, co39, eo39⟩ := Kd.R_slice HO513.out; subst eo39) | ((with_reducible refine gate_callee (f := 28) rfl ?_); refine goesL_ (some 98) rfl rfl Try.func28 (by kernel_rfl) rfl #[.agg #[.int .i64 t508, .int .i64 t509, .bool t510], .slice Ao39 t511.length co39, .bool t514] rfl (by (try simp only [List.map_toArray, List.map_cons, List.map_nil]); first | done | rfl | (simp only [List.length_drop, List.length_take]; rfl)) ?_; (with_reducible refine (impl_FirstCrossing.calls k t508 t509 t510 _ _ t511 t514 t516 t517 t518 _ ?side1 ?side2 A13.out).mono ?_); (case side1 => refine (Kd.R_reads' (e := 53) (base := w.heap.size) (ok := fun k_ => (((True ∧ some k_ ≠ (v485 : Value).ownBlock) ∧ some k_ ≠ (v489 : Value).ownBlock) ∧ some k_ ≠ (.slice Ao30 t499.length co30 : Value).ownBlock)) (n := t511.length) (c := co39) ?_).2.2; exact (by (with_reducible repeat (first | apply B' | apply C' | apply D')); exact (Q' (M' (p := ⟨gb515, 2, none⟩) (M' (p := ⟨gb515, 1, none⟩) (M' (p := ⟨gb515, 0, none⟩) (P' HO513.out BK515.out (by decide)) (fun _ hk => hk.2) (.int .i64 t508)) (fun _ hk => hk.2) (.int .i64 t509)) (fun _ hk => hk.2) (.bool t510)) (fun _ h_ => h_.1)))); (case side2 => exact (Kd.R_reads' HO513.out).2.1); rintro e w40 ⟨rfl, hb⟩; refine ⟨_, rfl, ?_⟩; have n0_ := A' (L' (by (with_reducible repeat (first | apply B' | apply C' | apply D')); exact (Q' (M' (p := ⟨gb515, 2, none⟩) (M' (p := ⟨gb515, 1, none⟩) (M' (p := ⟨gb515, 0, none⟩) (P' HO486.out BK515.out (by decide)) (fun _ hk => hk.2) (.int .i64 t508)) (fun _ hk => hk.2) (.int .i64 t509)) (fun _ hk => hk.2) (.bool t510)) (fun _ h_ => h_.1))) hb); have n1_ := A' (L' (by (with_reducible repeat (first | apply B' | apply C' | apply D')); exact (Q' (M' (p := ⟨gb515, 2, none⟩) (M' (p := ⟨gb515, 1, none⟩) (M' (p := ⟨gb515, 0, none⟩) (P' HO490.out BK515.out (by decide)) (fun _ hk => hk.2) (.int .i64 t508)) (fun _ hk => hk.2) (.int .i64 t509)) (fun _ hk => hk.2) (.bool t510)) (fun _ h_ => h_.1))) hb); have n2_ := A' (L' (by (with_reducible repeat (first | apply B' | apply C' | apply D')); exact (Q' (M' (p := ⟨gb515, 2, none⟩) (M' (p := ⟨gb515, 1, none⟩) (M' (p := ⟨gb515, 0, none⟩) (P' HO501.out BK515.out (by decide)) (fun _ hk => hk.2) (.int .i64 t508)) (fun _ hk => hk.2) (.int .i64 t509)) (fun _ hk => hk.2) (.bool t510)) (fun _ h_ => h_.1))) hb); have n3_ := A' (L' (by (with_reducible repeat (first | apply B' | apply C' | apply D')); exact (Q' (M' (p := ⟨gb515, 2, none⟩) (M' (p := ⟨gb515, 1, none⟩) (M' (p := ⟨gb515, 0, none⟩) (P' HO513.out BK515.out (by decide)) (fun _ hk => hk.2) (.int .i64 t508)) (fun _ hk => hk.2) (.int .i64 t509)) (fun _ hk => hk.2) (.bool t510)) (fun _ h_ => h_.1))) hb); have n4_ := A' (O' (g := gb483) (o := .cells #[.int .i64 t479, .int .i64 t480, .bool t481] 26 (0, 0)) (qG3 BK483.out NB483_515.out NB483_515.out NB483_515.out) hb); have n5_ := A' (O' (g := gb503) (o := .cells #[.int .i64 t496, .int .i64 t497, .bool t498] 26 (0, 0)) (qG3 BK503.out NB503_515.out NB503_515.out NB503_515.out) hb); have n6_ := A' (O' (g := gb515) (o := .cells #[.int .i64 t508, .int .i64 t509, .bool t510] 26 (0, 0)) (by (with_reducible repeat (first | refine G' ?_ _ | refine I' ?_ | refine H' ?_ _)); refine blk_put (cs := #[.int .i64 t508, .int .i64 t509, .bool false]) ?_ 2 _ rfl; (with_reducible repeat (first | refine G' ?_ _ | refine I' ?_ | refine H' ?_ _)); refine blk_put (cs := #[.int .i64 t508, .int .i64 0, .bool false]) ?_ 1 _ rfl; (with_reducible repeat (first | refine G' ?_ _ | refine I' ?_ | refine H' ?_ _)); refine blk_put (cs := #[.int .i64 0, .int .i64 0, .bool false]) ?_ 0 _ rfl; (with_reducible repeat (first | refine G' ?_ _ | refine I' ?_ | refine H' ?_ _)); exact BK515.out) hb); have n7_ := A' (W' (qK3 HB.out GE483.out GE503.out GE515.out) hb); clear HO486; clear HO490; clear HO501; clear HO513; clear BK483; clear BK503; clear BK515; clear HB; have HO486 := n0_; have HO490 := n1_; have HO501 := n2_; have HO513 := n3_; have BK483 := n4_; have BK503 := n5_; have BK515 := n6_; have HB := n7_; clear n0_ n1_ n2_ n3_ n4_ n5_ n6_ n7_; (try clear hb); (try clear hb2); (try clear hk); (try clear hi); have hcz41_0 : w40.cell? ⟨gb515, 0, none⟩ = some (.int .i64 t508) := (N' BK515.out 0).trans rfl; have hcz41_1 : w40.cell? ⟨gb515, 1, none⟩ = some (.int .i64 t509) := (N' BK515.out 1).trans rfl; have hcz41_2 : w40.cell? ⟨gb515, 2, none⟩ = some (.bool t510) := (N' BK515.out 2).trans rfl; have hfz41_0 := Y' BK515.out 0; have hfz41_1 := Y' BK515.out 1; have hfz41_2 := Y' BK515.out 2) | ((with_reducible refine gate_callee (f := 29) rfl ?_); refine goesL_ (some 106) rfl rfl Try.func29 (by kernel_rfl) rfl #[.agg #[.int .i64 t508, .int .i64 t509, .bool t510], .slice Ao39 t511.length co39, .bool t514] rfl (by (try simp only [List.map_toArray, List.map_cons, List.map_nil]); first | done | rfl | (simp only [List.length_drop, List.length_take]; rfl)) ?_; (with_reducible refine (spec_FirstCrossing.calls k t508 t509 t510 _ _ t511 t514 t519 t520 t521 _ ?side1 ?side2 A14.out).mono ?_); (case side1 => repeat (first | exact (Kd.R_reads' HO513.out).2.2 | (with_reducible refine R' ?_ _) | (with_reducible refine S' ?_ _) | (with_reducible refine T' ?_))); (case side2 => exact (Kd.R_reads' HO513.out).2.1); rintro e w42 ⟨rfl, hb⟩; refine ⟨_, rfl, ?_⟩; have n0_ := A' (L' (qR HO486.out) hb); have n1_ := A' (L' (qR HO490.out) hb); have n2_ := A' (L' (qR HO501.out) hb); have n3_ := A' (L' (qR HO513.out) hb); have n4_ := A' (O' (g := gb483) (qB BK483.out) hb); have n5_ := A' (O' (g := gb503) (qB BK503.out) hb); have n6_ := A' (O' (g := gb515) (qB BK515.out) hb); have n7_ := A' (W' (qK3 HB.out GE483.out GE503.out GE515.out) hb); clear HO486; clear HO490; clear HO501; clear HO513; clear BK483; clear BK503; clear BK515; clear HB; have HO486 := n0_; have HO490 := n1_; have HO501 := n2_; have HO513 := n3_; have BK483 := n4_; have BK503 := n5_; have BK515 := n6_; have HB := n7_; clear n0_ n1_ n2_ n3_ n4_ n5_ n6_ n7_; (try clear hb); (try clear hb2); (try clear hk); (try clear hi)))
  (try simp only [Act.put, List.setIfInBounds_toArray, List.set_cons_zero, List.set_cons_succ])
  go_cut [158] (fun v158 wc => ∃ (kq : Nat) (x158_14 : Bool), v158 = .bool x158_14 ∧ Aside0 (laws_FnCrossings.j0 kq t482 t484 t487 t488 t494 t499 t505 t511 t514 t518 x158_14 t479 t480 t481 t496 t497 t498 t508 t509 t510 = some r) ∧ Aside0 (kq ≤ k) ∧ Aside0 (Kd.R k53 53 wc w.heap.size (fun k_ => some k_ ≠ (v489 : Value).ownBlock ∧ some k_ ≠ ((.slice Ao30 t499.length co30) : Value).ownBlock ∧ some k_ ≠ ((.slice Ao39 t511.length co39) : Value).ownBlock) v485 t484) ∧ Aside0 (Kd.R k53 53 wc w.heap.size (fun k_ => some k_ ≠ (v485 : Value).ownBlock ∧ some k_ ≠ ((.slice Ao30 t499.length co30) : Value).ownBlock ∧ some k_ ≠ ((.slice Ao39 t511.length co39) : Value).ownBlock) v489 t488) ∧ Aside0 (Kd.R k53 53 wc w.heap.size (fun k_ => some k_ ≠ (v485 : Value).ownBlock ∧ some k_ ≠ (v489 : Value).ownBlock ∧ some k_ ≠ ((.slice Ao39 t511.length co39) : Value).ownBlock) (.slice Ao30 t499.length co30) t499) ∧ Aside0 (Kd.R k53 53 wc w.heap.size (fun k_ => some k_ ≠ (v485 : Value).ownBlock ∧ some k_ ≠ (v489 : Value).ownBlock ∧ some k_ ≠ ((.slice Ao30 t499.length co30) : Value).ownBlock) (.slice Ao39 t511.length co39) t511) ∧ Aside0 (wc.heap[gb483]? = some (.cells #[.int .i64 t479, .int .i64 t480, .bool t481] 26 (0, 0))) ∧ Aside0 (wc.heap[gb503]? = some (.cells #[.int .i64 t496, .int .i64 t497, .bool t498] 26 (0, 0))) ∧ Aside0 (wc.heap[gb515]? = some (.cells #[.int .i64 t508, .int .i64 t509, .bool t510] 26 (0, 0))) ∧ Aside0 (Below w.heap.size w wc))
  case first => as_aux_lemma =>
   have H := HC15.out; clear HC15
   by_cases c43 : t487 = t491
   ·rw [if_pos c43] at H; have c43b0 : (t487 == t491) = true := beq_iff_eq.mpr c43; have c43b1 : (t487 != t491) = false := bne_eq_false_iff_eq.mpr c43; clear c43; (first | rw [c43b0] | (simp only [i64_w, i32_w]; rw [c43b0]) | skip); replace H := Option.bind_eq_some_iff.mp H; obtain ⟨t522, A440, H⟩ := H; (try dsimp only at H); have A44 := A' A440; clear A440
    by_cases c45 : t522 = true
    ·subst c45; have H1 : (if t493 = t495 then (if t492 = t494 then (if t505 = t507 then (if t504 = t506 then (if t518 = t521 then (if t516 = t519 then (if t517 = t520 then (laws_FnCrossings.j0 k t482 t484 t487 t488 t494 t499 t505 t511 t514 t518 (t493 != t487) t479 t480 t481 t496 t497 t498 t508 t509 t510) else (laws_FnCrossings.j0 k t482 t484 t487 t488 t494 t499 t505 t511 t514 t518 true t479 t480 t481 t496 t497 t498 t508 t509 t510)) else (laws_FnCrossings.j0 k t482 t484 t487 t488 t494 t499 t505 t511 t514 t518 true t479 t480 t481 t496 t497 t498 t508 t509 t510)) else (laws_FnCrossings.j0 k t482 t484 t487 t488 t494 t499 t505 t511 t514 t518 true t479 t480 t481 t496 t497 t498 t508 t509 t510)) else (laws_FnCrossings.j0 k t482 t484 t487 t488 t494 t499 t505 t511 t514 t518 true t479 t480 t481 t496 t497 t498 t508 t509 t510)) else (laws_FnCrossings.j0 k t482 t484 t487 t488 t494 t499 t505 t511 t514 t518 true t479 t480 t481 t496 t497 t498 t508 t509 t510)) else (laws_FnCrossings.j0 k t482 t484 t487 t488 t494 t499 t505 t511 t514 t518 true t479 t480 t481 t496 t497 t498 t508 t509 t510)) else (laws_FnCrossings.j0 k t482 t484 t487 t488 t494 t499 t505 t511 t514 t518 true t479 t480 t481 t496 t497 t498 t508 t509 t510)) = some r := by rw [if_pos rfl] at H; exact H
     clear H; have H := H1; clear H1
     by_cases c46 : t493 = t495
     ·rw [if_pos c46] at H; have c46b0 : (t493 == t495) = true := beq_iff_eq.mpr c46; have c46b1 : (t493 != t495) = false := bne_eq_false_iff_eq.mpr c46; clear c46
      by_cases c47 : t492 = t494
      ·rw [if_pos c47] at H; have c47b0 : (t492 == t494) = true := beq_iff_eq.mpr c47; have c47b1 : (t492 != t494) = false := bne_eq_false_iff_eq.mpr c47; clear c47
       by_cases c48 : t505 = t507
       ·rw [if_pos c48] at H; have c48b0 : (t505 == t507) = true := beq_iff_eq.mpr c48; have c48b1 : (t505 != t507) = false := bne_eq_false_iff_eq.mpr c48; clear c48
        by_cases c49 : t504 = t506
        ·rw [if_pos c49] at H; have c49b0 : (t504 == t506) = true := beq_iff_eq.mpr c49; have c49b1 : (t504 != t506) = false := bne_eq_false_iff_eq.mpr c49; clear c49
         by_cases c50 : t518 = t521
         ·rw [if_pos c50] at H; have c50b0 : (t518 == t521) = true := beq_iff_eq.mpr c50; have c50b1 : (t518 != t521) = false := bne_eq_false_iff_eq.mpr c50; clear c50
          by_cases c51 : t516 = t519
          ·rw [if_pos c51] at H; have c51b0 : (t516 == t519) = true := beq_iff_eq.mpr c51; have c51b1 : (t516 != t519) = false := bne_eq_false_iff_eq.mpr c51; clear c51
           by_cases c52 : t517 = t520
           ·rw [if_pos c52] at H; have c52b0 : (t517 == t520) = true := beq_iff_eq.mpr c52; have c52b1 : (t517 != t520) = false := bne_eq_false_iff_eq.mpr c52; clear c52; have H' := A' H; clear H; obtain ⟨Ao53, co53, eo53⟩ := Kd.R_slice HO486.out; subst eo53; obtain ⟨Ao54, co54, eo54⟩ := Kd.R_slice HO490.out; subst eo54; go_wp2_with (first | (go_at_call 30; (with_reducible refine (spec_SameWay.calls k _ _ t484 _ _ t488 true _ ?side1 ?side2 ?side3 ?side4 A44.out).mono ?_); (case side1 => repeat (first | exact (Kd.R_reads' HO486.out).2.2 | (with_reducible refine R' ?_ _) | (with_reducible refine S' ?_ _) | (with_reducible refine T' ?_))); (case side2 => exact (Kd.R_reads' HO486.out).2.1); (case side3 => repeat (first | exact (Kd.R_reads' HO490.out).2.2 | (with_reducible refine R' ?_ _) | (with_reducible refine S' ?_ _) | (with_reducible refine T' ?_))); (case side4 => exact (Kd.R_reads' HO490.out).2.1); rintro e w' ⟨rfl, ⟨nd, rfl⟩⟩))
            go_meet
            case rel => exact ⟨_, ((t493 != t487)), qS, H', ⟨by first | omega | exact Nat.le_refl _⟩, ⟨by (with_reducible repeat (first | apply B' | apply C' | apply D')); exact Q' HO486.out (fun _ hk => ⟨hk.1.1.2, ⟨hk.1.2, hk.2⟩⟩)⟩, ⟨by (with_reducible repeat (first | apply B' | apply C' | apply D')); exact Q' HO490.out (fun _ hk => ⟨hk.1.1.2, ⟨hk.1.2, hk.2⟩⟩)⟩, ⟨by (with_reducible repeat (first | apply B' | apply C' | apply D')); exact Q' HO501.out (fun _ hk => ⟨hk.1.1.2, ⟨hk.1.2, hk.2⟩⟩)⟩, ⟨by (with_reducible repeat (first | apply B' | apply C' | apply D')); exact Q' HO513.out (fun _ hk => ⟨hk.1.1.2, ⟨hk.1.2, hk.2⟩⟩)⟩, ⟨qB BK483.out⟩, ⟨qB BK503.out⟩, ⟨qB BK515.out⟩, ⟨qK3 HB.out GE483.out GE503.out GE515.out⟩⟩
           ·rw [if_neg c52] at H; have c52b0 : (t517 == t520) = false := beq_eq_false_iff_ne.mpr c52; have c52b1 : (t517 != t520) = true := bne_iff_ne.mpr c52; have H' := A' H; clear H; obtain ⟨Ao55, co55, eo55⟩ := Kd.R_slice HO486.out; subst eo55; obtain ⟨Ao56, co56, eo56⟩ := Kd.R_slice HO490.out; subst eo56; go_wp2_with (first | (go_at_call 30; (with_reducible refine (spec_SameWay.calls k _ _ t484 _ _ t488 true _ ?side1 ?side2 ?side3 ?side4 A44.out).mono ?_); (case side1 => repeat (first | exact (Kd.R_reads' HO486.out).2.2 | (with_reducible refine R' ?_ _) | (with_reducible refine S' ?_ _) | (with_reducible refine T' ?_))); (case side2 => exact (Kd.R_reads' HO486.out).2.1); (case side3 => repeat (first | exact (Kd.R_reads' HO490.out).2.2 | (with_reducible refine R' ?_ _) | (with_reducible refine S' ?_ _) | (with_reducible refine T' ?_))); (case side4 => exact (Kd.R_reads' HO490.out).2.1); rintro e w' ⟨rfl, ⟨nd, rfl⟩⟩))
            go_meet
            case rel => exact ⟨_, (true), qS, H', ⟨by first | omega | exact Nat.le_refl _⟩, ⟨by (with_reducible repeat (first | apply B' | apply C' | apply D')); exact Q' HO486.out (fun _ hk => ⟨hk.1.1.2, ⟨hk.1.2, hk.2⟩⟩)⟩, ⟨by (with_reducible repeat (first | apply B' | apply C' | apply D')); exact Q' HO490.out (fun _ hk => ⟨hk.1.1.2, ⟨hk.1.2, hk.2⟩⟩)⟩, ⟨by (with_reducible repeat (first | apply B' | apply C' | apply D')); exact Q' HO501.out (fun _ hk => ⟨hk.1.1.2, ⟨hk.1.2, hk.2⟩⟩)⟩, ⟨by (with_reducible repeat (first | apply B' | apply C' | apply D')); exact Q' HO513.out (fun _ hk => ⟨hk.1.1.2, ⟨hk.1.2, hk.2⟩⟩)⟩, ⟨qB BK483.out⟩, ⟨qB BK503.out⟩, ⟨qB BK515.out⟩, ⟨qK3 HB.out GE483.out GE503.out GE515.out⟩⟩
          ·rw [if_neg c51] at H; have c51b0 : (t516 == t519) = false := beq_eq_false_iff_ne.mpr c51; have c51b1 : (t516 != t519) = true := bne_iff_ne.mpr c51; have H' := A' H; clear H; obtain ⟨Ao57, co57, eo57⟩ := Kd.R_slice HO486.out; subst eo57; obtain ⟨Ao58, co58, eo58⟩ := Kd.R_slice HO490.out; subst eo58; go_wp2_with (first | (go_at_call 30; (with_reducible refine (spec_SameWay.calls k _ _ t484 _ _ t488 true _ ?side1 ?side2 ?side3 ?side4 A44.out).mono ?_); (case side1 => repeat (first | exact (Kd.R_reads' HO486.out).2.2 | (with_reducible refine R' ?_ _) | (with_reducible refine S' ?_ _) | (with_reducible refine T' ?_))); (case side2 => exact (Kd.R_reads' HO486.out).2.1); (case side3 => repeat (first | exact (Kd.R_reads' HO490.out).2.2 | (with_reducible refine R' ?_ _) | (with_reducible refine S' ?_ _) | (with_reducible refine T' ?_))); (case side4 => exact (Kd.R_reads' HO490.out).2.1); rintro e w' ⟨rfl, ⟨nd, rfl⟩⟩))
           go_meet
           case rel => exact ⟨_, (true), qS, H', ⟨by first | omega | exact Nat.le_refl _⟩, ⟨by (with_reducible repeat (first | apply B' | apply C' | apply D')); exact Q' HO486.out (fun _ hk => ⟨hk.1.1.2, ⟨hk.1.2, hk.2⟩⟩)⟩, ⟨by (with_reducible repeat (first | apply B' | apply C' | apply D')); exact Q' HO490.out (fun _ hk => ⟨hk.1.1.2, ⟨hk.1.2, hk.2⟩⟩)⟩, ⟨by (with_reducible repeat (first | apply B' | apply C' | apply D')); exact Q' HO501.out (fun _ hk => ⟨hk.1.1.2, ⟨hk.1.2, hk.2⟩⟩)⟩, ⟨by (with_reducible repeat (first | apply B' | apply C' | apply D')); exact Q' HO513.out (fun _ hk => ⟨hk.1.1.2, ⟨hk.1.2, hk.2⟩⟩)⟩, ⟨qB BK483.out⟩, ⟨qB BK503.out⟩, ⟨qB BK515.out⟩, ⟨qK3 HB.out GE483.out GE503.out GE515.out⟩⟩
         ·rw [if_neg c50] at H; have c50b0 : (t518 == t521) = false := beq_eq_false_iff_ne.mpr c50; have c50b1 : (t518 != t521) = true := bne_iff_ne.mpr c50; have H' := A' H; clear H; obtain ⟨Ao59, co59, eo59⟩ := Kd.R_slice HO486.out; subst eo59; obtain ⟨Ao60, co60, eo60⟩ := Kd.R_slice HO490.out; subst eo60; go_wp2_with (first | (go_at_call 30; (with_reducible refine (spec_SameWay.calls k _ _ t484 _ _ t488 true _ ?side1 ?side2 ?side3 ?side4 A44.out).mono ?_); (case side1 => repeat (first | exact (Kd.R_reads' HO486.out).2.2 | (with_reducible refine R' ?_ _) | (with_reducible refine S' ?_ _) | (with_reducible refine T' ?_))); (case side2 => exact (Kd.R_reads' HO486.out).2.1); (case side3 => repeat (first | exact (Kd.R_reads' HO490.out).2.2 | (with_reducible refine R' ?_ _) | (with_reducible refine S' ?_ _) | (with_reducible refine T' ?_))); (case side4 => exact (Kd.R_reads' HO490.out).2.1); rintro e w' ⟨rfl, ⟨nd, rfl⟩⟩))
          go_meet
          case rel => exact ⟨_, (true), qS, H', ⟨by first | omega | exact Nat.le_refl _⟩, ⟨by (with_reducible repeat (first | apply B' | apply C' | apply D')); exact Q' HO486.out (fun _ hk => ⟨hk.1.1.2, ⟨hk.1.2, hk.2⟩⟩)⟩, ⟨by (with_reducible repeat (first | apply B' | apply C' | apply D')); exact Q' HO490.out (fun _ hk => ⟨hk.1.1.2, ⟨hk.1.2, hk.2⟩⟩)⟩, ⟨by (with_reducible repeat (first | apply B' | apply C' | apply D')); exact Q' HO501.out (fun _ hk => ⟨hk.1.1.2, ⟨hk.1.2, hk.2⟩⟩)⟩, ⟨by (with_reducible repeat (first | apply B' | apply C' | apply D')); exact Q' HO513.out (fun _ hk => ⟨hk.1.1.2, ⟨hk.1.2, hk.2⟩⟩)⟩, ⟨qB BK483.out⟩, ⟨qB BK503.out⟩, ⟨qB BK515.out⟩, ⟨qK3 HB.out GE483.out GE503.out GE515.out⟩⟩
        ·rw [if_neg c49] at H; have c49b0 : (t504 == t506) = false := beq_eq_false_iff_ne.mpr c49; have c49b1 : (t504 != t506) = true := bne_iff_ne.mpr c49; have H' := A' H; clear H; obtain ⟨Ao61, co61, eo61⟩ := Kd.R_slice HO486.out; subst eo61; obtain ⟨Ao62, co62, eo62⟩ := Kd.R_slice HO490.out; subst eo62; go_wp2_with (first | (go_at_call 30; (with_reducible refine (spec_SameWay.calls k _ _ t484 _ _ t488 true _ ?side1 ?side2 ?side3 ?side4 A44.out).mono ?_); (case side1 => repeat (first | exact (Kd.R_reads' HO486.out).2.2 | (with_reducible refine R' ?_ _) | (with_reducible refine S' ?_ _) | (with_reducible refine T' ?_))); (case side2 => exact (Kd.R_reads' HO486.out).2.1); (case side3 => repeat (first | exact (Kd.R_reads' HO490.out).2.2 | (with_reducible refine R' ?_ _) | (with_reducible refine S' ?_ _) | (with_reducible refine T' ?_))); (case side4 => exact (Kd.R_reads' HO490.out).2.1); rintro e w' ⟨rfl, ⟨nd, rfl⟩⟩))
         go_meet
         case rel => exact ⟨_, (true), qS, H', ⟨by first | omega | exact Nat.le_refl _⟩, ⟨by (with_reducible repeat (first | apply B' | apply C' | apply D')); exact Q' HO486.out (fun _ hk => ⟨hk.1.1.2, ⟨hk.1.2, hk.2⟩⟩)⟩, ⟨by (with_reducible repeat (first | apply B' | apply C' | apply D')); exact Q' HO490.out (fun _ hk => ⟨hk.1.1.2, ⟨hk.1.2, hk.2⟩⟩)⟩, ⟨by (with_reducible repeat (first | apply B' | apply C' | apply D')); exact Q' HO501.out (fun _ hk => ⟨hk.1.1.2, ⟨hk.1.2, hk.2⟩⟩)⟩, ⟨by (with_reducible repeat (first | apply B' | apply C' | apply D')); exact Q' HO513.out (fun _ hk => ⟨hk.1.1.2, ⟨hk.1.2, hk.2⟩⟩)⟩, ⟨qB BK483.out⟩, ⟨qB BK503.out⟩, ⟨qB BK515.out⟩, ⟨qK3 HB.out GE483.out GE503.out GE515.out⟩⟩
       ·rw [if_neg c48] at H; have c48b0 : (t505 == t507) = false := beq_eq_false_iff_ne.mpr c48; have c48b1 : (t505 != t507) = true := bne_iff_ne.mpr c48; have H' := A' H; clear H; obtain ⟨Ao63, co63, eo63⟩ := Kd.R_slice HO486.out; subst eo63; obtain ⟨Ao64, co64, eo64⟩ := Kd.R_slice HO490.out; subst eo64; go_wp2_with (first | (go_at_call 30; (with_reducible refine (spec_SameWay.calls k _ _ t484 _ _ t488 true _ ?side1 ?side2 ?side3 ?side4 A44.out).mono ?_); (case side1 => repeat (first | exact (Kd.R_reads' HO486.out).2.2 | (with_reducible refine R' ?_ _) | (with_reducible refine S' ?_ _) | (with_reducible refine T' ?_))); (case side2 => exact (Kd.R_reads' HO486.out).2.1); (case side3 => repeat (first | exact (Kd.R_reads' HO490.out).2.2 | (with_reducible refine R' ?_ _) | (with_reducible refine S' ?_ _) | (with_reducible refine T' ?_))); (case side4 => exact (Kd.R_reads' HO490.out).2.1); rintro e w' ⟨rfl, ⟨nd, rfl⟩⟩))
        go_meet
        case rel => exact ⟨_, (true), qS, H', ⟨by first | omega | exact Nat.le_refl _⟩, ⟨by (with_reducible repeat (first | apply B' | apply C' | apply D')); exact Q' HO486.out (fun _ hk => ⟨hk.1.1.2, ⟨hk.1.2, hk.2⟩⟩)⟩, ⟨by (with_reducible repeat (first | apply B' | apply C' | apply D')); exact Q' HO490.out (fun _ hk => ⟨hk.1.1.2, ⟨hk.1.2, hk.2⟩⟩)⟩, ⟨by (with_reducible repeat (first | apply B' | apply C' | apply D')); exact Q' HO501.out (fun _ hk => ⟨hk.1.1.2, ⟨hk.1.2, hk.2⟩⟩)⟩, ⟨by (with_reducible repeat (first | apply B' | apply C' | apply D')); exact Q' HO513.out (fun _ hk => ⟨hk.1.1.2, ⟨hk.1.2, hk.2⟩⟩)⟩, ⟨qB BK483.out⟩, ⟨qB BK503.out⟩, ⟨qB BK515.out⟩, ⟨qK3 HB.out GE483.out GE503.out GE515.out⟩⟩
      ·rw [if_neg c47] at H; have c47b0 : (t492 == t494) = false := beq_eq_false_iff_ne.mpr c47; have c47b1 : (t492 != t494) = true := bne_iff_ne.mpr c47; have H' := A' H; clear H; obtain ⟨Ao65, co65, eo65⟩ := Kd.R_slice HO486.out; subst eo65; obtain ⟨Ao66, co66, eo66⟩ := Kd.R_slice HO490.out; subst eo66; go_wp2_with (first | (go_at_call 30; (with_reducible refine (spec_SameWay.calls k _ _ t484 _ _ t488 true _ ?side1 ?side2 ?side3 ?side4 A44.out).mono ?_); (case side1 => repeat (first | exact (Kd.R_reads' HO486.out).2.2 | (with_reducible refine R' ?_ _) | (with_reducible refine S' ?_ _) | (with_reducible refine T' ?_))); (case side2 => exact (Kd.R_reads' HO486.out).2.1); (case side3 => repeat (first | exact (Kd.R_reads' HO490.out).2.2 | (with_reducible refine R' ?_ _) | (with_reducible refine S' ?_ _) | (with_reducible refine T' ?_))); (case side4 => exact (Kd.R_reads' HO490.out).2.1); rintro e w' ⟨rfl, ⟨nd, rfl⟩⟩))
       go_meet
       case rel => exact ⟨_, (true), qS, H', ⟨by first | omega | exact Nat.le_refl _⟩, ⟨by (with_reducible repeat (first | apply B' | apply C' | apply D')); exact Q' HO486.out (fun _ hk => ⟨hk.1.1.2, ⟨hk.1.2, hk.2⟩⟩)⟩, ⟨by (with_reducible repeat (first | apply B' | apply C' | apply D')); exact Q' HO490.out (fun _ hk => ⟨hk.1.1.2, ⟨hk.1.2, hk.2⟩⟩)⟩, ⟨by (with_reducible repeat (first | apply B' | apply C' | apply D')); exact Q' HO501.out (fun _ hk => ⟨hk.1.1.2, ⟨hk.1.2, hk.2⟩⟩)⟩, ⟨by (with_reducible repeat (first | apply B' | apply C' | apply D')); exact Q' HO513.out (fun _ hk => ⟨hk.1.1.2, ⟨hk.1.2, hk.2⟩⟩)⟩, ⟨qB BK483.out⟩, ⟨qB BK503.out⟩, ⟨qB BK515.out⟩, ⟨qK3 HB.out GE483.out GE503.out GE515.out⟩⟩
     ·rw [if_neg c46] at H; have c46b0 : (t493 == t495) = false := beq_eq_false_iff_ne.mpr c46; have c46b1 : (t493 != t495) = true := bne_iff_ne.mpr c46; have H' := A' H; clear H; obtain ⟨Ao67, co67, eo67⟩ := Kd.R_slice HO486.out; subst eo67; obtain ⟨Ao68, co68, eo68⟩ := Kd.R_slice HO490.out; subst eo68; go_wp2_with (first | (go_at_call 30; (with_reducible refine (spec_SameWay.calls k _ _ t484 _ _ t488 true _ ?side1 ?side2 ?side3 ?side4 A44.out).mono ?_); (case side1 => repeat (first | exact (Kd.R_reads' HO486.out).2.2 | (with_reducible refine R' ?_ _) | (with_reducible refine S' ?_ _) | (with_reducible refine T' ?_))); (case side2 => exact (Kd.R_reads' HO486.out).2.1); (case side3 => repeat (first | exact (Kd.R_reads' HO490.out).2.2 | (with_reducible refine R' ?_ _) | (with_reducible refine S' ?_ _) | (with_reducible refine T' ?_))); (case side4 => exact (Kd.R_reads' HO490.out).2.1); rintro e w' ⟨rfl, ⟨nd, rfl⟩⟩))
      go_meet
      case rel => exact ⟨_, (true), qS, H', ⟨by first | omega | exact Nat.le_refl _⟩, ⟨by (with_reducible repeat (first | apply B' | apply C' | apply D')); exact Q' HO486.out (fun _ hk => ⟨hk.1.1.2, ⟨hk.1.2, hk.2⟩⟩)⟩, ⟨by (with_reducible repeat (first | apply B' | apply C' | apply D')); exact Q' HO490.out (fun _ hk => ⟨hk.1.1.2, ⟨hk.1.2, hk.2⟩⟩)⟩, ⟨by (with_reducible repeat (first | apply B' | apply C' | apply D')); exact Q' HO501.out (fun _ hk => ⟨hk.1.1.2, ⟨hk.1.2, hk.2⟩⟩)⟩, ⟨by (with_reducible repeat (first | apply B' | apply C' | apply D')); exact Q' HO513.out (fun _ hk => ⟨hk.1.1.2, ⟨hk.1.2, hk.2⟩⟩)⟩, ⟨qB BK483.out⟩, ⟨qB BK503.out⟩, ⟨qB BK515.out⟩, ⟨qK3 HB.out GE483.out GE503.out GE515.out⟩⟩
    ·replace c45 := Bool.eq_false_iff.mpr c45; subst c45; have H1 : (laws_FnCrossings.j0 k t482 t484 t487 t488 t494 t499 t505 t511 t514 t518 true t479 t480 t481 t496 t497 t498 t508 t509 t510) = some r := by rw [if_neg (show ¬ (false = true) by decide)] at H; exact H
     clear H; have H := H1; clear H1; have H' := A' H; clear H; obtain ⟨Ao69, co69, eo69⟩ := Kd.R_slice HO486.out; subst eo69; obtain ⟨Ao70, co70, eo70⟩ := Kd.R_slice HO490.out; subst eo70; go_wp2_with (first | (go_at_call 30; (with_reducible refine (spec_SameWay.calls k _ _ t484 _ _ t488 false _ ?side1 ?side2 ?side3 ?side4 A44.out).mono ?_); (case side1 => repeat (first | exact (Kd.R_reads' HO486.out).2.2 | (with_reducible refine R' ?_ _) | (with_reducible refine S' ?_ _) | (with_reducible refine T' ?_))); (case side2 => exact (Kd.R_reads' HO486.out).2.1); (case side3 => repeat (first | exact (Kd.R_reads' HO490.out).2.2 | (with_reducible refine R' ?_ _) | (with_reducible refine S' ?_ _) | (with_reducible refine T' ?_))); (case side4 => exact (Kd.R_reads' HO490.out).2.1); rintro e w' ⟨rfl, ⟨nd, rfl⟩⟩))
     go_meet
     case rel => exact ⟨_, (true), qS, H', ⟨by first | omega | exact Nat.le_refl _⟩, ⟨by (with_reducible repeat (first | apply B' | apply C' | apply D')); exact Q' HO486.out (fun _ hk => ⟨hk.1.1.2, ⟨hk.1.2, hk.2⟩⟩)⟩, ⟨by (with_reducible repeat (first | apply B' | apply C' | apply D')); exact Q' HO490.out (fun _ hk => ⟨hk.1.1.2, ⟨hk.1.2, hk.2⟩⟩)⟩, ⟨by (with_reducible repeat (first | apply B' | apply C' | apply D')); exact Q' HO501.out (fun _ hk => ⟨hk.1.1.2, ⟨hk.1.2, hk.2⟩⟩)⟩, ⟨by (with_reducible repeat (first | apply B' | apply C' | apply D')); exact Q' HO513.out (fun _ hk => ⟨hk.1.1.2, ⟨hk.1.2, hk.2⟩⟩)⟩, ⟨qB BK483.out⟩, ⟨qB BK503.out⟩, ⟨qB BK515.out⟩, ⟨qK3 HB.out GE483.out GE503.out GE515.out⟩⟩
   ·rw [if_neg c43] at H; have c43b0 : (t487 == t491) = false := beq_eq_false_iff_ne.mpr c43; have c43b1 : (t487 != t491) = true := bne_iff_ne.mpr c43; (first | rw [c43b0] | (simp only [i64_w, i32_w]; rw [c43b0]) | skip); have H' := A' H; clear H; go_wp2
    go_meet
    case rel => exact ⟨_, (true), qS, H', ⟨by first | omega | exact Nat.le_refl _⟩, ⟨by (with_reducible repeat (first | apply B' | apply C' | apply D')); exact Q' HO486.out (fun _ hk => ⟨hk.1.1.2, ⟨hk.1.2, hk.2⟩⟩)⟩, ⟨by (with_reducible repeat (first | apply B' | apply C' | apply D')); exact Q' HO490.out (fun _ hk => ⟨hk.1.1.2, ⟨hk.1.2, hk.2⟩⟩)⟩, ⟨by (with_reducible repeat (first | apply B' | apply C' | apply D')); exact Q' HO501.out (fun _ hk => ⟨hk.1.1.2, ⟨hk.1.2, hk.2⟩⟩)⟩, ⟨by (with_reducible repeat (first | apply B' | apply C' | apply D')); exact Q' HO513.out (fun _ hk => ⟨hk.1.1.2, ⟨hk.1.2, hk.2⟩⟩)⟩, ⟨qB BK483.out⟩, ⟨qB BK503.out⟩, ⟨qB BK515.out⟩, ⟨qK3 HB.out GE483.out GE503.out GE515.out⟩⟩
  case rest => as_aux_lemma =>
   clear HC15; try clear c1
   try clear c2
   try clear p2
   try clear c3
   try clear c4
   try clear c5
   try clear c6
   try clear c7
   try clear c9
   try clear c10
   try clear c11
   try clear c22
   try clear c23
   try clear c24
   try clear c25
   try clear c26
   try clear c27
   try clear c28
   try clear c29
   try clear c36
   try clear c37
   try clear c43
   try clear c43b0
   try clear c43b1
   try clear c45
   try clear c46
   try clear c46b0
   try clear c46b1
   try clear c47
   try clear c47b0
   try clear c47b1
   try clear c48
   try clear c48b0
   try clear c48b1
   try clear c49
   try clear c49b0
   try clear c49b1
   try clear c50
   try clear c50b0
   try clear c50b1
   try clear c51
   try clear c51b0
   try clear c51b1
   try clear c52
   try clear c52b0
   try clear c52b1
   try clear hcz18_0
   try clear hcz18_1
   try clear hcz18_2
   try clear hcz20_0
   try clear hcz20_1
   try clear hcz20_2
   try clear hcz22_0
   try clear hcz22_1
   try clear hcz22_2
   try clear hcz24_0
   try clear hcz24_1
   try clear hcz24_2
   try clear hcz29_0
   try clear hcz29_1
   try clear hcz29_2
   try clear hcz32_0
   try clear hcz32_1
   try clear hcz32_2
   try clear hcz38_0
   try clear hcz38_1
   try clear hcz38_2
   try clear hcz41_0
   try clear hcz41_1
   try clear hcz41_2
   try clear hfz18_0
   try clear hfz18_1
   try clear hfz18_2
   try clear hfz20_0
   try clear hfz20_1
   try clear hfz20_2
   try clear hfz22_0
   try clear hfz22_1
   try clear hfz22_2
   try clear hfz24_0
   try clear hfz24_1
   try clear hfz24_2
   try clear hfz29_0
   try clear hfz29_1
   try clear hfz29_2
   try clear hfz32_0
   try clear hfz32_1
   try clear hfz32_2
   try clear hfz38_0
   try clear hfz38_1
   try clear hfz38_2
   try clear hfz41_0
   try clear hfz41_1
   try clear hfz41_2
   obtain ⟨kq, x158_14, rfl, HA, HJ14, HO_5, HO_7, HO_14, HO_21, BK483, BK503, BK515, HB⟩ := hcut
   cases kq with
   | zero => exact absurd HA.out (by simp [laws_FnCrossings.j0])
   | succ kj14 =>
    have H := HA.out; clear HA; simp only [laws_FnCrossings.j0] at H
    by_cases c71 : x158_14 = true
    ·subst c71; have H1 : (some false) = some r := by rw [if_pos rfl] at H; exact H
     clear H; have H := H1; clear H1; obtain rfl := Option.some.inj H; go_wp2; go_ret; exact ⟨qE, qK3 HB.out GE483.out GE503.out GE515.out⟩
    ·replace c71 := Bool.eq_false_iff.mpr c71; subst c71; have H1 : ((spec_CrossingsOf.f kj14 t508 t509 t510 t511 t514).bind fun bt523 => (if bt523.2 = 0 then (laws_FnCrossings.j1 kj14 t482 t484 t487 t488 t494 t499 t505 ((decide (bt523.1 > 0)) != (t518 == 0)) t479 t480 t481 t496 t497 t498) else (laws_FnCrossings.j1 kj14 t482 t484 t487 t488 t494 t499 t505 false t479 t480 t481 t496 t497 t498))) = some r := by rw [if_neg (show ¬ (false = true) by decide)] at H; exact H
     clear H; have H := H1; clear H1; replace H := Option.bind_eq_some_iff.mp H; obtain ⟨⟨t523, t524⟩, A720, H⟩ := H; replace H : (if t524 = 0 then (laws_FnCrossings.j1 kj14 t482 t484 t487 t488 t494 t499 t505 ((decide (t523 > 0)) != (t518 == 0)) t479 t480 t481 t496 t497 t498) else (laws_FnCrossings.j1 kj14 t482 t484 t487 t488 t494 t499 t505 false t479 t480 t481 t496 t497 t498)) = some r := H; have A72 := A' A720; clear A720; have HC73 := A' H; clear H; have hnb74 := NB515_483.out; have hnc74 := NB483_515.out; have hnb75 := NB515_503.out; have hnc75 := NB503_515.out; have hcz76_0 : wc.cell? ⟨gb515, 0, none⟩ = some (.int .i64 t508) := (N' BK515.out 0).trans rfl; have hcz76_1 : wc.cell? ⟨gb515, 1, none⟩ = some (.int .i64 t509) := (N' BK515.out 1).trans rfl; have hcz76_2 : wc.cell? ⟨gb515, 2, none⟩ = some (.bool t510) := (N' BK515.out 2).trans rfl; have hfz76_0 := Y' BK515.out 0; have hfz76_1 := Y' BK515.out 1; have hfz76_2 := Y' BK515.out 2; go_upto_region 17 with (first | ((with_reducible refine gate_callee (f := 26) rfl ?_); refine goesL_ (some 163) rfl rfl Try.func26 (by kernel_rfl) rfl #[.agg #[.int .i64 t508, .int .i64 t509, .bool t510], .slice Ao39 t511.length co39, .bool t514] rfl (by (try simp only [List.map_toArray, List.map_cons, List.map_nil]); first | done | rfl | (simp only [List.length_drop, List.length_take]; rfl)) ?_; (with_reducible refine (spec_CrossingsOf.calls kj14 t508 t509 t510 _ _ t511 t514 t523 t524 _ ?side1 ?side2 A72.out).mono ?_); (case side1 => repeat (first | exact (Kd.R_reads' HO_21.out).2.2 | (with_reducible refine R' ?_ _) | (with_reducible refine S' ?_ _) | (with_reducible refine T' ?_))); (case side2 => exact (Kd.R_reads' HO_21.out).2.1); rintro e w77 ⟨rfl, hb⟩; refine ⟨_, rfl, ?_⟩; have n0_ := A' (L' (qR HO_5.out) hb); have n1_ := A' (L' (qR HO_7.out) hb); have n2_ := A' (L' (qR HO_14.out) hb); have n3_ := A' (L' (qR HO_21.out) hb); have n4_ := A' (O' (g := gb483) (qB BK483.out) hb); have n5_ := A' (O' (g := gb503) (qB BK503.out) hb); have n6_ := A' (O' (g := gb515) (qB BK515.out) hb); have n7_ := A' (W' (qK3 HB.out GE483.out GE503.out GE515.out) hb); clear HO_5; clear HO_7; clear HO_14; clear HO_21; clear BK483; clear BK503; clear BK515; clear HB; have HO_5 := n0_; have HO_7 := n1_; have HO_14 := n2_; have HO_21 := n3_; have BK483 := n4_; have BK503 := n5_; have BK515 := n6_; have HB := n7_; clear n0_ n1_ n2_ n3_ n4_ n5_ n6_ n7_; (try clear hb); (try clear hb2); (try clear hk); (try clear hi)))
     (try simp only [Act.put, List.setIfInBounds_toArray, List.set_cons_zero, List.set_cons_succ])
     go_cut [174] (fun v174 wc => ∃ (kq : Nat) (x174_72 : Bool), v174 = .bool x174_72 ∧ Aside0 (laws_FnCrossings.j1 kq t482 t484 t487 t488 t494 t499 t505 x174_72 t479 t480 t481 t496 t497 t498 = some r) ∧ Aside0 (kq ≤ kj14) ∧ Aside0 (Kd.R k53 53 wc w.heap.size (fun k_ => some k_ ≠ (v489 : Value).ownBlock ∧ some k_ ≠ ((.slice Ao30 t499.length co30) : Value).ownBlock) v485 t484) ∧ Aside0 (Kd.R k53 53 wc w.heap.size (fun k_ => some k_ ≠ (v485 : Value).ownBlock ∧ some k_ ≠ ((.slice Ao30 t499.length co30) : Value).ownBlock) v489 t488) ∧ Aside0 (Kd.R k53 53 wc w.heap.size (fun k_ => some k_ ≠ (v485 : Value).ownBlock ∧ some k_ ≠ (v489 : Value).ownBlock) (.slice Ao30 t499.length co30) t499) ∧ Aside0 (wc.heap[gb483]? = some (.cells #[.int .i64 t479, .int .i64 t480, .bool t481] 26 (0, 0))) ∧ Aside0 (wc.heap[gb503]? = some (.cells #[.int .i64 t496, .int .i64 t497, .bool t498] 26 (0, 0))) ∧ Aside0 (wc.heap[gb515]? = some (.cells #[.int .i64 t508, .int .i64 t509, .bool t510] 26 (0, 0))) ∧ Aside0 (Below w.heap.size w wc))
     case first => as_aux_lemma =>
      have H := HC73.out; clear HC73
      by_cases c78 : t524 = 0
      ·rw [if_pos c78] at H; have c78b0 : (t524 == 0) = true := beq_iff_eq.mpr c78; have c78b1 : (t524 != 0) = false := bne_eq_false_iff_eq.mpr c78; clear c78; (first | rw [c78b0] | (simp only [i64_w, i32_w]; rw [c78b0]) | skip); have H' := A' H; clear H; go_wp2
       go_meet
       case rel => exact ⟨_, (((decide (t523 > 0)) != (t518 == 0))), qS, H', ⟨by have := HJ14.out; first | omega | exact Nat.le_refl _⟩, ⟨by (with_reducible repeat (first | apply B' | apply C' | apply D')); exact Q' HO_5.out (fun _ hk => ⟨hk.1, hk.2.1⟩)⟩, ⟨by (with_reducible repeat (first | apply B' | apply C' | apply D')); exact Q' HO_7.out (fun _ hk => ⟨hk.1, hk.2.1⟩)⟩, ⟨by (with_reducible repeat (first | apply B' | apply C' | apply D')); exact Q' HO_14.out (fun _ hk => ⟨hk.1, hk.2.1⟩)⟩, ⟨qB BK483.out⟩, ⟨qB BK503.out⟩, ⟨qB BK515.out⟩, ⟨qK3 HB.out GE483.out GE503.out GE515.out⟩⟩
      ·rw [if_neg c78] at H; have c78b0 : (t524 == 0) = false := beq_eq_false_iff_ne.mpr c78; have c78b1 : (t524 != 0) = true := bne_iff_ne.mpr c78; (first | rw [c78b0] | (simp only [i64_w, i32_w]; rw [c78b0]) | skip); have H' := A' H; clear H; go_wp2
       go_meet
       case rel => exact ⟨_, (false), qS, H', ⟨by have := HJ14.out; first | omega | exact Nat.le_refl _⟩, ⟨by (with_reducible repeat (first | apply B' | apply C' | apply D')); exact Q' HO_5.out (fun _ hk => ⟨hk.1, hk.2.1⟩)⟩, ⟨by (with_reducible repeat (first | apply B' | apply C' | apply D')); exact Q' HO_7.out (fun _ hk => ⟨hk.1, hk.2.1⟩)⟩, ⟨by (with_reducible repeat (first | apply B' | apply C' | apply D')); exact Q' HO_14.out (fun _ hk => ⟨hk.1, hk.2.1⟩)⟩, ⟨qB BK483.out⟩, ⟨qB BK503.out⟩, ⟨qB BK515.out⟩, ⟨qK3 HB.out GE483.out GE503.out GE515.out⟩⟩
     case rest => as_aux_lemma =>
      clear HC73; try clear c1
      try clear c2
      try clear p2
      try clear c3
      try clear c4
      try clear c5
      try clear c6
      try clear c7
      try clear c9
      try clear c10
      try clear c11
      try clear c22
      try clear c23
      try clear c24
      try clear c25
      try clear c26
      try clear c27
      try clear c28
      try clear c29
      try clear c36
      try clear c37
      try clear c43
      try clear c43b0
      try clear c43b1
      try clear c45
      try clear c46
      try clear c46b0
      try clear c46b1
      try clear c47
      try clear c47b0
      try clear c47b1
      try clear c48
      try clear c48b0
      try clear c48b1
      try clear c49
      try clear c49b0
      try clear c49b1
      try clear c50
      try clear c50b0
      try clear c50b1
      try clear c51
      try clear c51b0
      try clear c51b1
      try clear c52
      try clear c52b0
      try clear c52b1
      try clear c71
      try clear c74
      try clear c75
      try clear c78
      try clear c78b0
      try clear c78b1
      try clear hcz18_0
      try clear hcz18_1
      try clear hcz18_2
      try clear hcz20_0
      try clear hcz20_1
      try clear hcz20_2
      try clear hcz22_0
      try clear hcz22_1
      try clear hcz22_2
      try clear hcz24_0
      try clear hcz24_1
      try clear hcz24_2
      try clear hcz29_0
      try clear hcz29_1
      try clear hcz29_2
      try clear hcz32_0
      try clear hcz32_1
      try clear hcz32_2
      try clear hcz38_0
      try clear hcz38_1
      try clear hcz38_2
      try clear hcz41_0
      try clear hcz41_1
      try clear hcz41_2
      try clear hcz76_0
      try clear hcz76_1
      try clear hcz76_2
      try clear hfz18_0
      try clear hfz18_1
      try clear hfz18_2
      try clear hfz20_0
      try clear hfz20_1
      try clear hfz20_2
      try clear hfz22_0
      try clear hfz22_1
      try clear hfz22_2
      try clear hfz24_0
      try clear hfz24_1
      try clear hfz24_2
      try clear hfz29_0
      try clear hfz29_1
      try clear hfz29_2
      try clear hfz32_0
      try clear hfz32_1
      try clear hfz32_2
      try clear hfz38_0
      try clear hfz38_1
      try clear hfz38_2
      try clear hfz41_0
      try clear hfz41_1
      try clear hfz41_2
      try clear hfz76_0
      try clear hfz76_1
      try clear hfz76_2
      try clear p2
      obtain ⟨kq, x174_72, rfl, HA, HJ72, HO_5, HO_7, HO_14, BK483, BK503, BK515, HB⟩ := hcut
      cases kq with
      | zero => exact absurd HA.out (by simp [laws_FnCrossings.j1])
      | succ kj72 =>
       have H := HA.out; clear HA; simp only [laws_FnCrossings.j1] at H
       by_cases c79 : x174_72 = true
       ·subst c79; have H1 : (some false) = some r := by rw [if_pos rfl] at H; exact H
        clear H; have H := H1; clear H1; obtain rfl := Option.some.inj H; go_wp2; go_ret; exact ⟨qE, qK3 HB.out GE483.out GE503.out GE515.out⟩
       ·replace c79 := Bool.eq_false_iff.mpr c79; subst c79; have H1 : (if t505 = 0 then (laws_FnCrossings.j2 kj72 t482 t484 t487 t488 t494 t499 (decide ((t499.length : Int) > 0)) t479 t480 t481 t496 t497 t498) else (laws_FnCrossings.j2 kj72 t482 t484 t487 t488 t494 t499 false t479 t480 t481 t496 t497 t498)) = some r := by rw [if_neg (show ¬ (false = true) by decide)] at H; exact H
        clear H; have H := H1; clear H1; have HC80 := A' H; clear H; go_upto_region 19 with (fail)
        go_cut [181] (fun v181 wc => ∃ (kq : Nat) (x181_79 : Bool), v181 = .bool x181_79 ∧ Aside0 (laws_FnCrossings.j2 kq t482 t484 t487 t488 t494 t499 x181_79 t479 t480 t481 t496 t497 t498 = some r) ∧ Aside0 (kq ≤ kj72) ∧ Aside0 (Kd.R k53 53 wc w.heap.size (fun k_ => some k_ ≠ (v489 : Value).ownBlock ∧ some k_ ≠ ((.slice Ao30 t499.length co30) : Value).ownBlock) v485 t484) ∧ Aside0 (Kd.R k53 53 wc w.heap.size (fun k_ => some k_ ≠ (v485 : Value).ownBlock ∧ some k_ ≠ ((.slice Ao30 t499.length co30) : Value).ownBlock) v489 t488) ∧ Aside0 (Kd.R k53 53 wc w.heap.size (fun k_ => some k_ ≠ (v485 : Value).ownBlock ∧ some k_ ≠ (v489 : Value).ownBlock) (.slice Ao30 t499.length co30) t499) ∧ Aside0 (wc.heap[gb483]? = some (.cells #[.int .i64 t479, .int .i64 t480, .bool t481] 26 (0, 0))) ∧ Aside0 (wc.heap[gb503]? = some (.cells #[.int .i64 t496, .int .i64 t497, .bool t498] 26 (0, 0))) ∧ Aside0 (wc.heap[gb515]? = some (.cells #[.int .i64 t508, .int .i64 t509, .bool t510] 26 (0, 0))) ∧ Aside0 (Below w.heap.size w wc))
        case first => as_aux_lemma =>
         have H := HC80.out; clear HC80
         by_cases c81 : t505 = 0
         ·rw [if_pos c81] at H; have c81b0 : (t505 == 0) = true := beq_iff_eq.mpr c81; have c81b1 : (t505 != 0) = false := bne_eq_false_iff_eq.mpr c81; clear c81; (first | rw [c81b0] | (simp only [i64_w, i32_w]; rw [c81b0]) | skip); have H' := A' H; clear H; go_wp2
          go_meet
          case rel => exact ⟨_, (decide ((t499.length : Int) > 0)), qS, H', ⟨by have := HJ14.out; have := HJ72.out; first | omega | exact Nat.le_refl _⟩, ⟨qR HO_5.out⟩, ⟨qR HO_7.out⟩, ⟨qR HO_14.out⟩, ⟨qB BK483.out⟩, ⟨qB BK503.out⟩, ⟨qB BK515.out⟩, ⟨qK3 HB.out GE483.out GE503.out GE515.out⟩⟩
         ·rw [if_neg c81] at H; have c81b0 : (t505 == 0) = false := beq_eq_false_iff_ne.mpr c81; have c81b1 : (t505 != 0) = true := bne_iff_ne.mpr c81; (first | rw [c81b0] | (simp only [i64_w, i32_w]; rw [c81b0]) | skip); have H' := A' H; clear H; go_wp2
          go_meet
          case rel => exact ⟨_, (false), qS, H', ⟨by have := HJ14.out; have := HJ72.out; first | omega | exact Nat.le_refl _⟩, ⟨qR HO_5.out⟩, ⟨qR HO_7.out⟩, ⟨qR HO_14.out⟩, ⟨qB BK483.out⟩, ⟨qB BK503.out⟩, ⟨qB BK515.out⟩, ⟨qK3 HB.out GE483.out GE503.out GE515.out⟩⟩
        case rest => as_aux_lemma =>
         clear HC80; try clear c1
         try clear c2
         try clear p2
         try clear c3
         try clear c4
         try clear c5
         try clear c6
         try clear c7
         try clear c8
         try clear c9
         try clear c10
         try clear c11
         try clear c22
         try clear c23
         try clear c24
         try clear c25
         try clear c26
         try clear c27
         try clear c28
         try clear c29
         try clear c36
         try clear c37
         try clear c43
         try clear c43b0
         try clear c43b1
         try clear c45
         try clear c46
         try clear c46b0
         try clear c46b1
         try clear c47
         try clear c47b0
         try clear c47b1
         try clear c48
         try clear c48b0
         try clear c48b1
         try clear c49
         try clear c49b0
         try clear c49b1
         try clear c50
         try clear c50b0
         try clear c50b1
         try clear c51
         try clear c51b0
         try clear c51b1
         try clear c52
         try clear c52b0
         try clear c52b1
         try clear c71
         try clear c74
         try clear c75
         try clear c78
         try clear c78b0
         try clear c78b1
         try clear c79
         try clear c81
         try clear c81b0
         try clear c81b1
         try clear hcz18_0
         try clear hcz18_1
         try clear hcz18_2
         try clear hcz20_0
         try clear hcz20_1
         try clear hcz20_2
         try clear hcz22_0
         try clear hcz22_1
         try clear hcz22_2
         try clear hcz24_0
         try clear hcz24_1
         try clear hcz24_2
         try clear hcz29_0
         try clear hcz29_1
         try clear hcz29_2
         try clear hcz32_0
         try clear hcz32_1
         try clear hcz32_2
         try clear hcz38_0
         try clear hcz38_1
         try clear hcz38_2
         try clear hcz41_0
         try clear hcz41_1
         try clear hcz41_2
         try clear hcz76_0
         try clear hcz76_1
         try clear hcz76_2
         try clear hfz18_0
         try clear hfz18_1
         try clear hfz18_2
         try clear hfz20_0
         try clear hfz20_1
         try clear hfz20_2
         try clear hfz22_0
         try clear hfz22_1
         try clear hfz22_2
         try clear hfz24_0
         try clear hfz24_1
         try clear hfz24_2
         try clear hfz29_0
         try clear hfz29_1
         try clear hfz29_2
         try clear hfz32_0
         try clear hfz32_1
         try clear hfz32_2
         try clear hfz38_0
         try clear hfz38_1
         try clear hfz38_2
         try clear hfz41_0
         try clear hfz41_1
         try clear hfz41_2
         try clear hfz76_0
         try clear hfz76_1
         try clear hfz76_2
         try clear p2
         obtain ⟨kq, x181_79, rfl, HA, HJ79, HO_5, HO_7, HO_14, BK483, BK503, BK515, HB⟩ := hcut
         cases kq with
         | zero => exact absurd HA.out (by simp [laws_FnCrossings.j2])
         | succ kj79 =>
          have H := HA.out; clear HA; simp only [laws_FnCrossings.j2] at H
          by_cases c82 : x181_79 = true
          ·subst c82; have H1 : (if 0 ≤ (wrap64 ((t499.length : Int) - 1)) then (if (wrap64 ((t499.length : Int) - 1)) < (t499.length : Int) then ((impl_FewestCrossings.f kj79 t496 t497 t498 ((rd_T53 t499 (wrap64 ((t499.length : Int) - 1))).f1)).bind fun bt526 => ((spec_CrossingsOf.f kj79 t496 t497 t498 t499 false).bind fun bt528 => (if bt526.2 = 0 then (if bt528.2 = 0 then (laws_FnCrossings.j3 kj79 t482 t484 t487 t488 t494 (decide (bt526.1 > bt528.1)) t479 t480 t481) else (laws_FnCrossings.j3 kj79 t482 t484 t487 t488 t494 true t479 t480 t481)) else (laws_FnCrossings.j3 kj79 t482 t484 t487 t488 t494 true t479 t480 t481)))) else (none)) else (none)) = some r := by rw [if_pos rfl] at H; exact H
           clear H; have H := H1; clear H1; obtain ⟨ji83, hji83⟩ : ∃ j_ : Int, (wrap64 ((t499.length : Int) - 1)) = j_ := ⟨_, rfl⟩
           replace H : (if 0 ≤ (ji83) then (if (ji83) < (t499.length : Int) then ((impl_FewestCrossings.f kj79 t496 t497 t498 ((rd_T53 t499 (ji83)).f1)).bind fun bt526 => ((spec_CrossingsOf.f kj79 t496 t497 t498 t499 false).bind fun bt528 => (if bt526.2 = 0 then (if bt528.2 = 0 then (laws_FnCrossings.j3 kj79 t482 t484 t487 t488 t494 (decide (bt526.1 > bt528.1)) t479 t480 t481) else (laws_FnCrossings.j3 kj79 t482 t484 t487 t488 t494 true t479 t480 t481)) else (laws_FnCrossings.j3 kj79 t482 t484 t487 t488 t494 true t479 t480 t481)))) else (none)) else (none)) = some r := by first | (rw [hji83] at H; exact H) | (simp only [hji83] at H ⊢; exact H)
           have hji83w : (IntKind.i64.wrap ((t499.length : Int) - 1)) = ji83 := (i64_w _).trans hji83
           by_cases c84 : 0 ≤ (ji83)
           ·rw [if_pos c84] at H; have c84b0 : decide (0 ≤ (ji83)) = true := dT' c84; clear c84
            by_cases c85 : (ji83) < (t499.length : Int)
            ·rw [if_pos c85] at H; have c85b0 : decide ((ji83) < (t499.length : Int)) = true := dT' c85; clear c85; replace H := Option.bind_eq_some_iff.mp H; obtain ⟨⟨t526, t527⟩, A860, H⟩ := H; (try dsimp only at H); have A86 := A' A860; clear A860; replace H := Option.bind_eq_some_iff.mp H; obtain ⟨⟨t528, t529⟩, A870, H⟩ := H; replace H : (if t527 = 0 then (if t529 = 0 then (laws_FnCrossings.j3 kj79 t482 t484 t487 t488 t494 (decide (t526 > t528)) t479 t480 t481) else (laws_FnCrossings.j3 kj79 t482 t484 t487 t488 t494 true t479 t480 t481)) else (laws_FnCrossings.j3 kj79 t482 t484 t487 t488 t494 true t479 t480 t481)) = some r := H; have A87 := A' A870; clear A870; have HC88 := A' H; clear H; try go_wp2
             have n0_ := A' (D' HO_5.out); have n1_ := A' (D' HO_7.out); have n2_ := A' (D' HO_14.out); have n3_ := A' (I' BK483.out); have n4_ := A' (I' BK503.out); have n5_ := A' (I' BK515.out); have n6_ := A' (J' HB.out); clear HO_5; clear HO_7; clear HO_14; clear BK483; clear BK503; clear BK515; clear HB; have HO_5 := n0_; have HO_7 := n1_; have HO_14 := n2_; have BK483 := n3_; have BK503 := n4_; have BK515 := n5_; have HB := n6_; clear n0_ n1_ n2_ n3_ n4_ n5_ n6_; have p525 : 0 ≤ ((ji83) : Int) := oD' qA; have q525 : (ji83) < (t499.length : Int) := oD' qA; obtain ⟨ad525, e525, hx525_0, hx525_1⟩ := at_T53 (Kd.R_reads' HO_14.out).2.2 (ji83) p525 q525
             cases e525
             replace p525 := eq_true p525; replace q525 := eq_true q525; refine start_ (n := 14) (S := fun w' => w'.cell? ⟨gb503, 0, none⟩ = some (.int .i64 t496) ∧ w'.cell? ⟨gb503, 1, none⟩ = some (.int .i64 t497) ∧ w'.cell? ⟨gb503, 2, none⟩ = some (.bool t498) ∧ w'.cell? (ad525.add (((ji83)).toNat * 2)) = some (.int .i64 ((rd_T53 t499 (ji83)).f0)) ∧ w'.cell? ⟨(ad525.add (((ji83)).toNat * 2)).block, (ad525.add (((ji83)).toNat * 2)).off + 1, none⟩ = some (.int .i64 ((rd_T53 t499 (ji83)).f1))) (ds := []) #[n', n', n', n', n', n', n', n', n', n', n', n', n', n'] (by kernel_rfl) rfl rfl ⟨(N' BK503.out 0).trans rfl, (N' BK503.out 1).trans rfl, (N' BK503.out 2).trans rfl, hx525_0, hx525_1⟩ (fun hHeld => ?_); refine with_tabW laws_FnCrossings.tab20 laws_FnCrossings.bits20 (fun HT_ HW_ => ?_)
             generalize wc.drew = w89 at HO_5 HO_7 HO_14 BK483 BK503 BK515 HB hx525_0 hx525_1 hHeld ⊢
             refine pure_ (i := 1) (N := some 184) (v := ?_) (a' := ?_) #[n', y', n', n', n', n', n', n', n', n', n', n', n', n'] rfl rfl (any_of HT_.out (by kernel_rfl)) (fun _ _ _ h => h) (Or.inl ⟨by rfl, ?_⟩) ?_ ?_; rotate_left
             ·exact qI
             rotate_left
             ·exact qP
             refine pure_ (i := 2) (N := some 185) (v := ?_) (a' := ?_) #[n', y', y', n', n', n', n', n', n', n', n', n', n', n'] rfl rfl (any_of HT_.out (by kernel_rfl)) (fun _ _ _ h => h) (Or.inl ⟨by rfl, ?_⟩) ?_ ?_; rotate_left
             ·exact qI
             rotate_left
             ·exact qP
             refine pure_ (i := 3) (N := some 186) (v := ?_) (a' := ?_) #[n', y', y', y', n', n', n', n', n', n', n', n', n', n'] rfl rfl (any_of HT_.out (by kernel_rfl)) (fun _ _ _ h => h) (Or.inl ⟨by rfl, ?_⟩) ?_ ?_; rotate_left
             ·exact qI
             rotate_left
             ·exact qP
             refine pure_ (i := 4) (N := some 187) (v := ?_) (a' := ?_) #[n', y', y', y', y', n', n', n', n', n', n', n', n', n'] rfl rfl (any_of HT_.out (by kernel_rfl)) (fun _ _ _ h => h) (Or.inl ⟨by rfl, ?_⟩) ?_ ?_; rotate_left
             ·exact qI
             rotate_left
             ·exact qP
             refine pure_ (i := 5) (N := some 188) (v := ?_) (a' := ?_) #[n', y', y', y', y', y', n', n', n', n', n', n', n', n'] rfl rfl (any_of HT_.out (by kernel_rfl)) (fun _ _ _ h => h) (Or.inl ⟨by rfl, ?_⟩) ?_ ?_; rotate_left
             ·exact qI
             rotate_left
             ·exact qP
             refine pure_ (i := 6) (N := some 189) (v := ?_) (a' := ?_) #[n', y', y', y', y', y', y', n', n', n', n', n', n', n'] rfl rfl (any_of HT_.out (by kernel_rfl)) (fun _ _ _ h => h) (Or.inl ⟨by rfl, ?_⟩) ?_ ?_; rotate_left
             ·exact qI
             rotate_left
             ·exact qP
             refine take_ (i := 0) (N := some 183) (v := ?_) (a' := ?_) #[y', y', y', y', y', y', y', n', n', n', n', n', n', n'] rfl rfl (take_ofW HT_.out HW_.out (by kernel_rfl)) (fun _ _ _ h => h) (Or.inl ⟨by rfl, ?_⟩) hHeld ?_ ?_; rotate_left
             ·rintro w' ⟨s0, s1, s2, s3, s4⟩; go_simp; with_reducible rfl
             rotate_left
             ·exact qP
             refine take_ (i := 7) (N := some 190) (v := ?_) (a' := ?_) #[y', y', y', y', y', y', y', y', n', n', n', n', n', n'] rfl rfl (take_ofW HT_.out HW_.out (by kernel_rfl)) (fun _ _ _ h => h) (Or.inl ⟨by rfl, ?_⟩) hHeld ?_ ?_; rotate_left
             ·rintro w' ⟨s0, s1, s2, s3, s4⟩; go_simp; with_reducible rfl
             rotate_left
             ·exact qP
             refine one_ (i := 8) (N := some 191) #[y', y', y', y', y', y', y', y', y', n', n', n', n', n'] rfl rfl (one_of HT_.out (by kernel_rfl)) (by decide) (fun K hK => ?_); refine goes_ Try.func9 (by kernel_rfl) rfl #[.agg #[.int .i64 t496, .int .i64 t497, .bool t498], .int .i64 ((rd_T53 t499 (ji83)).f1)] (by rfl) rfl rfl (by (try simp only [List.map_toArray, List.map_cons, List.map_nil]); first | done | (simp only [hji83]; rfl) | rfl | (simp only [List.length_drop, List.length_take]; rfl)) ?_
             with_reducible refine (impl_FewestCrossings.calls kj79 t496 t497 t498 ((rd_T53 t499 (ji83)).f1) t526 t527 _ A86.out).mono ?_
             rintro e w90 ⟨rfl, hb⟩; have HS3_ := (hb.cell (World.block_lt_of_cell? _ _ (hHeld.2.2.2.1))).trans (hHeld.2.2.2.1); have HS4_ := (hb.cell (World.block_lt_of_cell? _ _ (hHeld.2.2.2.2))).trans (hHeld.2.2.2.2); refine ⟨_, rfl, ?_⟩; have n0_ := A' (L' (qR HO_5.out) hb); have n1_ := A' (L' (qR HO_7.out) hb); have n2_ := A' (L' (qR HO_14.out) hb); have n3_ := A' (O' (g := gb483) (qB BK483.out) hb); have n4_ := A' (O' (g := gb503) (qB BK503.out) hb); have n5_ := A' (O' (g := gb515) (qB BK515.out) hb); have n6_ := A' (W' (qK3 HB.out GE483.out GE503.out GE515.out) hb); clear HO_5; clear HO_7; clear HO_14; clear BK483; clear BK503; clear BK515; clear HB; have HO_5 := n0_; have HO_7 := n1_; have HO_14 := n2_; have BK483 := n3_; have BK503 := n4_; have BK515 := n5_; have HB := n6_; clear n0_ n1_ n2_ n3_ n4_ n5_ n6_; (try clear hb); (try clear hb2); (try clear hk); (try clear hi); refine hK.out _ _ ⟨(N' BK503.out 0).trans rfl, (N' BK503.out 1).trans rfl, (N' BK503.out 2).trans rfl, HS3_, HS4_⟩ (fun hHeld => ?_); clear hK K; refine norm_ (a' := ?_) ?_ ?_; rotate_left
             ·show Act.put _ (some 191) _ = _
              exact qP
             refine pure_ (i := 9) (N := some 182) (v := ?_) (a' := ?_) #[y', y', y', y', y', y', y', y', y', y', n', n', n', n'] rfl rfl (any_of HT_.out (by kernel_rfl)) (fun _ _ _ h => h) (Or.inl ⟨by rfl, ?_⟩) ?_ ?_; rotate_left
             ·exact qI
             rotate_left
             ·exact qP
             refine pure_ (i := 10) (N := some 192) (v := ?_) (a' := ?_) #[y', y', y', y', y', y', y', y', y', y', y', n', n', n'] rfl rfl (any_of HT_.out (by kernel_rfl)) (fun _ _ _ h => h) (Or.inl ⟨by rfl, ?_⟩) ?_ ?_; rotate_left
             ·exact qI
             rotate_left
             ·exact qP
             refine pure_ (i := 11) (N := some 193) (v := ?_) (a' := ?_) #[y', y', y', y', y', y', y', y', y', y', y', y', n', n'] rfl rfl (any_of HT_.out (by kernel_rfl)) (fun _ _ _ h => h) (Or.inl ⟨by rfl, ?_⟩) ?_ ?_; rotate_left
             ·exact qI
             rotate_left
             ·exact qP
             refine pure_ (i := 12) (N := some 31) (v := ?_) (a' := ?_) #[y', y', y', y', y', y', y', y', y', y', y', y', y', n'] rfl rfl (any_of HT_.out (by kernel_rfl)) (fun _ _ _ h => h) (Or.inl ⟨by rfl, ?_⟩) ?_ ?_; rotate_left
             ·exact qI
             rotate_left
             ·exact qP
             refine pure_ (i := 13) (N := some 32) (v := ?_) (a' := ?_) #[y', y', y', y', y', y', y', y', y', y', y', y', y', y'] rfl rfl (any_of HT_.out (by kernel_rfl)) (fun _ _ _ h => h) (Or.inl ⟨by rfl, ?_⟩) ?_ ?_; rotate_left
             ·exact qI
             rotate_left
             ·exact qP
             refine done_ (done_of HT_.out (by kernel_rfl)) ?_; have hnb91 := NB503_483.out; have hnc91 := NB483_503.out; have hnb92 := NB503_515.out; have hnc92 := NB515_503.out; have hcz93_0 : w90.cell? ⟨gb503, 0, none⟩ = some (.int .i64 t496) := (N' BK503.out 0).trans rfl; have hcz93_1 : w90.cell? ⟨gb503, 1, none⟩ = some (.int .i64 t497) := (N' BK503.out 1).trans rfl; have hcz93_2 : w90.cell? ⟨gb503, 2, none⟩ = some (.bool t498) := (N' BK503.out 2).trans rfl; have hfz93_0 := Y' BK503.out 0; have hfz93_1 := Y' BK503.out 1; have hfz93_2 := Y' BK503.out 2; go_upto_region 22 with (first | ((with_reducible refine gate_callee (f := 26) rfl ?_); refine goesL_ (some 197) rfl rfl Try.func26 (by kernel_rfl) rfl #[.agg #[.int .i64 t496, .int .i64 t497, .bool t498], .slice (some ad525) t499.length co30, .bool false] rfl (by (try simp only [List.map_toArray, List.map_cons, List.map_nil]); first | done | rfl | (simp only [List.length_drop, List.length_take]; rfl)) ?_; (with_reducible refine (spec_CrossingsOf.calls kj79 t496 t497 t498 _ _ t499 false t528 t529 _ ?side1 ?side2 A87.out).mono ?_); (case side1 => repeat (first | exact (Kd.R_reads' HO_14.out).2.2 | (with_reducible refine R' ?_ _) | (with_reducible refine S' ?_ _) | (with_reducible refine T' ?_))); (case side2 => exact (Kd.R_reads' HO_14.out).2.1); rintro e w94 ⟨rfl, hb⟩; refine ⟨_, rfl, ?_⟩; have n0_ := A' (L' (qR HO_5.out) hb); have n1_ := A' (L' (qR HO_7.out) hb); have n2_ := A' (L' (qR HO_14.out) hb); have n3_ := A' (O' (g := gb483) (qB BK483.out) hb); have n4_ := A' (O' (g := gb503) (qB BK503.out) hb); have n5_ := A' (O' (g := gb515) (qB BK515.out) hb); have n6_ := A' (W' (qK3 HB.out GE483.out GE503.out GE515.out) hb); clear HO_5; clear HO_7; clear HO_14; clear BK483; clear BK503; clear BK515; clear HB; have HO_5 := n0_; have HO_7 := n1_; have HO_14 := n2_; have BK483 := n3_; have BK503 := n4_; have BK515 := n5_; have HB := n6_; clear n0_ n1_ n2_ n3_ n4_ n5_ n6_; (try clear hb); (try clear hb2); (try clear hk); (try clear hi)))
             (try simp only [Act.put, List.setIfInBounds_toArray, List.set_cons_zero, List.set_cons_succ])
             go_cut [210] (fun v210 wc => ∃ (kq : Nat) (x210_87 : Bool), v210 = .bool x210_87 ∧ Aside0 (laws_FnCrossings.j3 kq t482 t484 t487 t488 t494 x210_87 t479 t480 t481 = some r) ∧ Aside0 (kq ≤ kj79) ∧ Aside0 (Kd.R k53 53 wc w.heap.size (fun k_ => some k_ ≠ (v489 : Value).ownBlock) v485 t484) ∧ Aside0 (Kd.R k53 53 wc w.heap.size (fun k_ => some k_ ≠ (v485 : Value).ownBlock) v489 t488) ∧ Aside0 (wc.heap[gb483]? = some (.cells #[.int .i64 t479, .int .i64 t480, .bool t481] 26 (0, 0))) ∧ Aside0 (wc.heap[gb503]? = some (.cells #[.int .i64 t496, .int .i64 t497, .bool t498] 26 (0, 0))) ∧ Aside0 (wc.heap[gb515]? = some (.cells #[.int .i64 t508, .int .i64 t509, .bool t510] 26 (0, 0))) ∧ Aside0 (Below w.heap.size w wc))
             case first => as_aux_lemma =>
              have H := HC88.out; clear HC88
              by_cases c95 : t527 = 0
              ·rw [if_pos c95] at H; have c95b0 : (t527 == 0) = true := beq_iff_eq.mpr c95; have c95b1 : (t527 != 0) = false := bne_eq_false_iff_eq.mpr c95; clear c95; (first | rw [c95b0] | (simp only [i64_w, i32_w]; rw [c95b0]) | skip)
               by_cases c96 : t529 = 0
               ·rw [if_pos c96] at H; have c96b0 : (t529 == 0) = true := beq_iff_eq.mpr c96; have c96b1 : (t529 != 0) = false := bne_eq_false_iff_eq.mpr c96; clear c96; have H' := A' H; clear H; go_wp2
                go_meet
                case rel => exact ⟨_, (decide (t526 > t528)), qS, H', ⟨by have := HJ14.out; have := HJ72.out; have := HJ79.out; first | omega | exact Nat.le_refl _⟩, ⟨by (with_reducible repeat (first | apply B' | apply C' | apply D')); exact Q' HO_5.out (fun _ hk => hk.1)⟩, ⟨by (with_reducible repeat (first | apply B' | apply C' | apply D')); exact Q' HO_7.out (fun _ hk => hk.1)⟩, ⟨qB BK483.out⟩, ⟨qB BK503.out⟩, ⟨qB BK515.out⟩, ⟨qK3 HB.out GE483.out GE503.out GE515.out⟩⟩
               ·rw [if_neg c96] at H; have c96b0 : (t529 == 0) = false := beq_eq_false_iff_ne.mpr c96; have c96b1 : (t529 != 0) = true := bne_iff_ne.mpr c96; have H' := A' H; clear H; go_wp2
                go_meet
                case rel => exact ⟨_, (true), qS, H', ⟨by have := HJ14.out; have := HJ72.out; have := HJ79.out; first | omega | exact Nat.le_refl _⟩, ⟨by (with_reducible repeat (first | apply B' | apply C' | apply D')); exact Q' HO_5.out (fun _ hk => hk.1)⟩, ⟨by (with_reducible repeat (first | apply B' | apply C' | apply D')); exact Q' HO_7.out (fun _ hk => hk.1)⟩, ⟨qB BK483.out⟩, ⟨qB BK503.out⟩, ⟨qB BK515.out⟩, ⟨qK3 HB.out GE483.out GE503.out GE515.out⟩⟩
              ·rw [if_neg c95] at H; have c95b0 : (t527 == 0) = false := beq_eq_false_iff_ne.mpr c95; have c95b1 : (t527 != 0) = true := bne_iff_ne.mpr c95; (first | rw [c95b0] | (simp only [i64_w, i32_w]; rw [c95b0]) | skip); have H' := A' H; clear H; go_wp2
               go_meet
               case rel => exact ⟨_, (true), qS, H', ⟨by have := HJ14.out; have := HJ72.out; have := HJ79.out; first | omega | exact Nat.le_refl _⟩, ⟨by (with_reducible repeat (first | apply B' | apply C' | apply D')); exact Q' HO_5.out (fun _ hk => hk.1)⟩, ⟨by (with_reducible repeat (first | apply B' | apply C' | apply D')); exact Q' HO_7.out (fun _ hk => hk.1)⟩, ⟨qB BK483.out⟩, ⟨qB BK503.out⟩, ⟨qB BK515.out⟩, ⟨qK3 HB.out GE483.out GE503.out GE515.out⟩⟩
             case rest => as_aux_lemma =>
              clear HC88; try clear c1
              try clear c2
              try clear p2
              try clear c3
              try clear c4
              try clear c5
              try clear p5
              try clear q5
              try clear hx5
              try clear c6
              try clear p6
              try clear c7
              try clear c8
              try clear c9
              try clear c10
              try clear c11
              try clear c22
              try clear c23
              try clear c24
              try clear c25
              try clear c26
              try clear c27
              try clear c28
              try clear c29
              try clear c36
              try clear c37
              try clear c43
              try clear c43b0
              try clear c43b1
              try clear c45
              try clear c46
              try clear c46b0
              try clear c46b1
              try clear c47
              try clear c47b0
              try clear c47b1
              try clear c48
              try clear c48b0
              try clear c48b1
              try clear c49
              try clear c49b0
              try clear c49b1
              try clear c50
              try clear c50b0
              try clear c50b1
              try clear c51
              try clear c51b0
              try clear c51b1
              try clear c52
              try clear c52b0
              try clear c52b1
              try clear p52
              try clear q52
              try clear hx52
              try clear p64
              try clear c71
              try clear c74
              try clear c75
              try clear c78
              try clear c78b0
              try clear c78b1
              try clear c79
              try clear c81
              try clear c81b0
              try clear c81b1
              try clear c82
              try clear c84
              try clear c84b0
              try clear c85
              try clear c85b0
              try clear c91
              try clear c92
              try clear c95
              try clear c95b0
              try clear c95b1
              try clear c96
              try clear c96b0
              try clear c96b1
              try clear hcz18_0
              try clear hcz18_1
              try clear hcz18_2
              try clear hcz20_0
              try clear hcz20_1
              try clear hcz20_2
              try clear hcz22_0
              try clear hcz22_1
              try clear hcz22_2
              try clear hcz24_0
              try clear hcz24_1
              try clear hcz24_2
              try clear hcz29_0
              try clear hcz29_1
              try clear hcz29_2
              try clear hcz32_0
              try clear hcz32_1
              try clear hcz32_2
              try clear hcz38_0
              try clear hcz38_1
              try clear hcz38_2
              try clear hcz41_0
              try clear hcz41_1
              try clear hcz41_2
              try clear hcz76_0
              try clear hcz76_1
              try clear hcz76_2
              try clear hcz93_0
              try clear hcz93_1
              try clear hcz93_2
              try clear hfz18_0
              try clear hfz18_1
              try clear hfz18_2
              try clear hfz20_0
              try clear hfz20_1
              try clear hfz20_2
              try clear hfz22_0
              try clear hfz22_1
              try clear hfz22_2
              try clear hfz24_0
              try clear hfz24_1
              try clear hfz24_2
              try clear hfz29_0
              try clear hfz29_1
              try clear hfz29_2
              try clear hfz32_0
              try clear hfz32_1
              try clear hfz32_2
              try clear hfz38_0
              try clear hfz38_1
              try clear hfz38_2
              try clear hfz41_0
              try clear hfz41_1
              try clear hfz41_2
              try clear hfz76_0
              try clear hfz76_1
              try clear hfz76_2
              try clear hfz93_0
              try clear hfz93_1
              try clear hfz93_2
              try clear hx525_0
              try clear hx525_1
              try clear p2
              try clear p525
              try clear q525
              obtain ⟨kq, x210_87, rfl, HA, HJ87, HO_5, HO_7, BK483, BK503, BK515, HB⟩ := hcut
              cases kq with
              | zero => exact absurd HA.out (by simp [laws_FnCrossings.j3])
              | succ kj87 =>
               have H := HA.out; clear HA; simp only [laws_FnCrossings.j3] at H
               by_cases c97 : x210_87 = true
               ·subst c97; have H1 : (some false) = some r := by rw [if_pos rfl] at H; exact H
                clear H; have H := H1; clear H1; obtain rfl := Option.some.inj H; go_wp2; go_ret; exact ⟨by first | rfl | (simp [errW_none, errW_some] <;> rfl) | (simp only [← hji83]; first | rfl | (simp [errW_none, errW_some] <;> rfl)) | (simp [*, errW_none, errW_some] <;> rfl), qK3 HB.out GE483.out GE503.out GE515.out⟩
               ·replace c97 := Bool.eq_false_iff.mpr c97; subst c97; have H1 : (if t487 = 0 then ((impl_CrossingsOf.f kj87 t479 t480 t481 t484 false).bind fun bt530 => (if bt530.2 = 0 then (if bt530.1 = t494 then (if (t488.length : Int) > 0 then (if 0 ≤ (wrap64 ((t488.length : Int) - 1)) then (if (wrap64 ((t488.length : Int) - 1)) < (t488.length : Int) then (some (((rd_T53 t488 (wrap64 ((t488.length : Int) - 1))).f1) == t482)) else (none)) else (none)) else (some false)) else (some false)) else (some false))) else (some true)) = some r := by rw [if_neg (show ¬ (false = true) by decide)] at H; exact H
                clear H; have H := H1; clear H1
                by_cases c98 : t487 = 0
                ·rw [if_pos c98] at H; have c98b0 : (t487 == 0) = true := beq_iff_eq.mpr c98; have c98b1 : (t487 != 0) = false := bne_eq_false_iff_eq.mpr c98; clear c98; replace H := Option.bind_eq_some_iff.mp H; obtain ⟨⟨t530, t531⟩, A990, H⟩ := H; (try dsimp only at H); have A99 := A' A990; clear A990
                 by_cases c100 : t531 = 0
                 ·rw [if_pos c100] at H; have c100b0 : (t531 == 0) = true := beq_iff_eq.mpr c100; have c100b1 : (t531 != 0) = false := bne_eq_false_iff_eq.mpr c100; clear c100
                  by_cases c101 : t530 = t494
                  ·rw [if_pos c101] at H; have c101b0 : (t530 == t494) = true := beq_iff_eq.mpr c101; have c101b1 : (t530 != t494) = false := bne_eq_false_iff_eq.mpr c101; clear c101
                   by_cases c102 : (t488.length : Int) > 0
                   ·rw [if_pos c102] at H; have c102b0 : decide (0 < (t488.length : Int)) = true := dT' c102; have c102b1 : decide (0 < t488.length) = true := dT' (by omega); clear c102; obtain ⟨ji103, hji103⟩ : ∃ j_ : Int, (wrap64 ((t488.length : Int) - 1)) = j_ := ⟨_, rfl⟩
                    replace H : (if 0 ≤ (ji103) then (if (ji103) < (t488.length : Int) then (some (((rd_T53 t488 (ji103)).f1) == t482)) else (none)) else (none)) = some r := by first | (rw [hji103] at H; exact H) | (simp only [hji103] at H ⊢; exact H)
                    (try rw [hji103] at A99); have hji103w : (IntKind.i64.wrap ((t488.length : Int) - 1)) = ji103 := (i64_w _).trans hji103
                    by_cases c104 : 0 ≤ (ji103)
                    ·rw [if_pos c104] at H; have c104b0 : decide (0 ≤ (ji103)) = true := dT' c104; clear c104
                     by_cases c105 : (ji103) < (t488.length : Int)
                     ·rw [if_pos c105] at H; have c105b0 : decide ((ji103) < (t488.length : Int)) = true := dT' c105; clear c105; obtain rfl := Option.some.inj H; have hnb106 := NB483_503.out; have hnc106 := NB503_483.out; have hnb107 := NB483_515.out; have hnc107 := NB515_483.out; have hcz108_0 : wc.cell? ⟨gb483, 0, none⟩ = some (.int .i64 t479) := (N' BK483.out 0).trans rfl; have hcz108_1 : wc.cell? ⟨gb483, 1, none⟩ = some (.int .i64 t480) := (N' BK483.out 1).trans rfl; have hcz108_2 : wc.cell? ⟨gb483, 2, none⟩ = some (.bool t481) := (N' BK483.out 2).trans rfl; have hfz108_0 := Y' BK483.out 0; have hfz108_1 := Y' BK483.out 1; have hfz108_2 := Y' BK483.out 2; obtain ⟨Ao109, co109, eo109⟩ := Kd.R_slice HO_5.out; subst eo109; go_wp2_with (first | ((with_reducible refine gate_callee (f := 25) rfl ?_); refine goesL_ (some 216) rfl rfl Try.func25 (by kernel_rfl) rfl #[.agg #[.int .i64 t479, .int .i64 t480, .bool t481], .slice Ao109 t484.length co109, .bool false] rfl (by (try simp only [List.map_toArray, List.map_cons, List.map_nil]); first | done | rfl | (simp only [List.length_drop, List.length_take]; rfl)) ?_; (with_reducible refine (impl_CrossingsOf.calls kj87 t479 t480 t481 _ _ t484 false t530 t531 _ ?side1 ?side2 A99.out).mono ?_); (case side1 => repeat (first | exact (Kd.R_reads' HO_5.out).2.2 | (with_reducible refine R' ?_ _) | (with_reducible refine S' ?_ _) | (with_reducible refine T' ?_))); (case side2 => exact (Kd.R_reads' HO_5.out).2.1); rintro e w110 ⟨rfl, hb⟩; refine ⟨_, rfl, ?_⟩; have n0_ := A' (L' (qR HO_5.out) hb); have n1_ := A' (L' (qR HO_7.out) hb); have n2_ := A' (O' (g := gb483) (qB BK483.out) hb); have n3_ := A' (O' (g := gb503) (qB BK503.out) hb); have n4_ := A' (O' (g := gb515) (qB BK515.out) hb); have n5_ := A' (W' (qK3 HB.out GE483.out GE503.out GE515.out) hb); clear HO_5; clear HO_7; clear BK483; clear BK503; clear BK515; clear HB; have HO_5 := n0_; have HO_7 := n1_; have BK483 := n2_; have BK503 := n3_; have BK515 := n4_; have HB := n5_; clear n0_ n1_ n2_ n3_ n4_ n5_; (try clear hb); (try clear hb2); (try clear hk); (try clear hi); obtain ⟨Ao111, co111, eo111⟩ := Kd.R_slice HO_7.out; subst eo111; have p532 : 0 ≤ ((ji103) : Int) := oD' qA; have q532 : (ji103) < (t488.length : Int) := oD' qA; obtain ⟨ad532, e532, hx532_0, hx532_1⟩ := at_T53 (Kd.R_reads' HO_7.out).2.2 (ji103) p532 q532; cases e532; replace p532 := eq_true p532; replace q532 := eq_true q532)); go_ret; exact ⟨by first | rfl | (simp [errW_none, errW_some] <;> rfl) | (simp only [← hji83, ← hji103]; first | rfl | (simp [errW_none, errW_some] <;> rfl)) | (simp [*, errW_none, errW_some] <;> rfl), qK3 HB.out GE483.out GE503.out GE515.out⟩
                     ·rw [if_neg c105] at H; exact absurd H (by simp)
                    ·rw [if_neg c104] at H; exact absurd H (by simp)
                   ·rw [if_neg c102] at H; have c102b0 : decide (0 < (t488.length : Int)) = false := dF' c102; have c102b1 : decide (0 < t488.length) = false := dF' (by omega); clear c102; obtain rfl := Option.some.inj H; have hnb112 := NB483_503.out; have hnc112 := NB503_483.out; have hnb113 := NB483_515.out; have hnc113 := NB515_483.out; have hcz114_0 : wc.cell? ⟨gb483, 0, none⟩ = some (.int .i64 t479) := (N' BK483.out 0).trans rfl; have hcz114_1 : wc.cell? ⟨gb483, 1, none⟩ = some (.int .i64 t480) := (N' BK483.out 1).trans rfl; have hcz114_2 : wc.cell? ⟨gb483, 2, none⟩ = some (.bool t481) := (N' BK483.out 2).trans rfl; have hfz114_0 := Y' BK483.out 0; have hfz114_1 := Y' BK483.out 1; have hfz114_2 := Y' BK483.out 2; obtain ⟨Ao115, co115, eo115⟩ := Kd.R_slice HO_5.out; subst eo115; go_wp2_with (first | ((with_reducible refine gate_callee (f := 25) rfl ?_); refine goesL_ (some 216) rfl rfl Try.func25 (by kernel_rfl) rfl #[.agg #[.int .i64 t479, .int .i64 t480, .bool t481], .slice Ao115 t484.length co115, .bool false] rfl (by (try simp only [List.map_toArray, List.map_cons, List.map_nil]); first | done | rfl | (simp only [List.length_drop, List.length_take]; rfl)) ?_; (with_reducible refine (impl_CrossingsOf.calls kj87 t479 t480 t481 _ _ t484 false t530 t531 _ ?side1 ?side2 A99.out).mono ?_); (case side1 => repeat (first | exact (Kd.R_reads' HO_5.out).2.2 | (with_reducible refine R' ?_ _) | (with_reducible refine S' ?_ _) | (with_reducible refine T' ?_))); (case side2 => exact (Kd.R_reads' HO_5.out).2.1); rintro e w116 ⟨rfl, hb⟩; refine ⟨_, rfl, ?_⟩; have n0_ := A' (L' (qR HO_5.out) hb); have n1_ := A' (L' (qR HO_7.out) hb); have n2_ := A' (O' (g := gb483) (qB BK483.out) hb); have n3_ := A' (O' (g := gb503) (qB BK503.out) hb); have n4_ := A' (O' (g := gb515) (qB BK515.out) hb); have n5_ := A' (W' (qK3 HB.out GE483.out GE503.out GE515.out) hb); clear HO_5; clear HO_7; clear BK483; clear BK503; clear BK515; clear HB; have HO_5 := n0_; have HO_7 := n1_; have BK483 := n2_; have BK503 := n3_; have BK515 := n4_; have HB := n5_; clear n0_ n1_ n2_ n3_ n4_ n5_; (try clear hb); (try clear hb2); (try clear hk); (try clear hi); obtain ⟨Ao117, co117, eo117⟩ := Kd.R_slice HO_7.out; subst eo117)); go_ret; exact ⟨by first | rfl | (simp [errW_none, errW_some] <;> rfl) | (simp only [← hji83]; first | rfl | (simp [errW_none, errW_some] <;> rfl)) | (simp [*, errW_none, errW_some] <;> rfl), qK3 HB.out GE483.out GE503.out GE515.out⟩
                  ·rw [if_neg c101] at H; have c101b0 : (t530 == t494) = false := beq_eq_false_iff_ne.mpr c101; have c101b1 : (t530 != t494) = true := bne_iff_ne.mpr c101; obtain rfl := Option.some.inj H; have hnb118 := NB483_503.out; have hnc118 := NB503_483.out; have hnb119 := NB483_515.out; have hnc119 := NB515_483.out; have hcz120_0 : wc.cell? ⟨gb483, 0, none⟩ = some (.int .i64 t479) := (N' BK483.out 0).trans rfl; have hcz120_1 : wc.cell? ⟨gb483, 1, none⟩ = some (.int .i64 t480) := (N' BK483.out 1).trans rfl; have hcz120_2 : wc.cell? ⟨gb483, 2, none⟩ = some (.bool t481) := (N' BK483.out 2).trans rfl; have hfz120_0 := Y' BK483.out 0; have hfz120_1 := Y' BK483.out 1; have hfz120_2 := Y' BK483.out 2; obtain ⟨Ao121, co121, eo121⟩ := Kd.R_slice HO_5.out; subst eo121; go_wp2_with (first | ((with_reducible refine gate_callee (f := 25) rfl ?_); refine goesL_ (some 216) rfl rfl Try.func25 (by kernel_rfl) rfl #[.agg #[.int .i64 t479, .int .i64 t480, .bool t481], .slice Ao121 t484.length co121, .bool false] rfl (by (try simp only [List.map_toArray, List.map_cons, List.map_nil]); first | done | rfl | (simp only [List.length_drop, List.length_take]; rfl)) ?_; (with_reducible refine (impl_CrossingsOf.calls kj87 t479 t480 t481 _ _ t484 false t530 t531 _ ?side1 ?side2 A99.out).mono ?_); (case side1 => repeat (first | exact (Kd.R_reads' HO_5.out).2.2 | (with_reducible refine R' ?_ _) | (with_reducible refine S' ?_ _) | (with_reducible refine T' ?_))); (case side2 => exact (Kd.R_reads' HO_5.out).2.1); rintro e w122 ⟨rfl, hb⟩; refine ⟨_, rfl, ?_⟩; have n0_ := A' (L' (qR HO_5.out) hb); have n1_ := A' (L' (qR HO_7.out) hb); have n2_ := A' (O' (g := gb483) (qB BK483.out) hb); have n3_ := A' (O' (g := gb503) (qB BK503.out) hb); have n4_ := A' (O' (g := gb515) (qB BK515.out) hb); have n5_ := A' (W' (qK3 HB.out GE483.out GE503.out GE515.out) hb); clear HO_5; clear HO_7; clear BK483; clear BK503; clear BK515; clear HB; have HO_5 := n0_; have HO_7 := n1_; have BK483 := n2_; have BK503 := n3_; have BK515 := n4_; have HB := n5_; clear n0_ n1_ n2_ n3_ n4_ n5_; (try clear hb); (try clear hb2); (try clear hk); (try clear hi))); go_ret; exact ⟨by first | rfl | (simp [errW_none, errW_some] <;> rfl) | (simp only [← hji83]; first | rfl | (simp [errW_none, errW_some] <;> rfl)) | (simp [*, errW_none, errW_some] <;> rfl), qK3 HB.out GE483.out GE503.out GE515.out⟩
                 ·rw [if_neg c100] at H; have c100b0 : (t531 == 0) = false := beq_eq_false_iff_ne.mpr c100; have c100b1 : (t531 != 0) = true := bne_iff_ne.mpr c100; obtain rfl := Option.some.inj H; have hnb123 := NB483_503.out; have hnc123 := NB503_483.out; have hnb124 := NB483_515.out; have hnc124 := NB515_483.out; have hcz125_0 : wc.cell? ⟨gb483, 0, none⟩ = some (.int .i64 t479) := (N' BK483.out 0).trans rfl; have hcz125_1 : wc.cell? ⟨gb483, 1, none⟩ = some (.int .i64 t480) := (N' BK483.out 1).trans rfl; have hcz125_2 : wc.cell? ⟨gb483, 2, none⟩ = some (.bool t481) := (N' BK483.out 2).trans rfl; have hfz125_0 := Y' BK483.out 0; have hfz125_1 := Y' BK483.out 1; have hfz125_2 := Y' BK483.out 2; obtain ⟨Ao126, co126, eo126⟩ := Kd.R_slice HO_5.out; subst eo126; go_wp2_with (first | ((with_reducible refine gate_callee (f := 25) rfl ?_); refine goesL_ (some 216) rfl rfl Try.func25 (by kernel_rfl) rfl #[.agg #[.int .i64 t479, .int .i64 t480, .bool t481], .slice Ao126 t484.length co126, .bool false] rfl (by (try simp only [List.map_toArray, List.map_cons, List.map_nil]); first | done | rfl | (simp only [List.length_drop, List.length_take]; rfl)) ?_; (with_reducible refine (impl_CrossingsOf.calls kj87 t479 t480 t481 _ _ t484 false t530 t531 _ ?side1 ?side2 A99.out).mono ?_); (case side1 => repeat (first | exact (Kd.R_reads' HO_5.out).2.2 | (with_reducible refine R' ?_ _) | (with_reducible refine S' ?_ _) | (with_reducible refine T' ?_))); (case side2 => exact (Kd.R_reads' HO_5.out).2.1); rintro e w127 ⟨rfl, hb⟩; refine ⟨_, rfl, ?_⟩; have n0_ := A' (L' (qR HO_5.out) hb); have n1_ := A' (L' (qR HO_7.out) hb); have n2_ := A' (O' (g := gb483) (qB BK483.out) hb); have n3_ := A' (O' (g := gb503) (qB BK503.out) hb); have n4_ := A' (O' (g := gb515) (qB BK515.out) hb); have n5_ := A' (W' (qK3 HB.out GE483.out GE503.out GE515.out) hb); clear HO_5; clear HO_7; clear BK483; clear BK503; clear BK515; clear HB; have HO_5 := n0_; have HO_7 := n1_; have BK483 := n2_; have BK503 := n3_; have BK515 := n4_; have HB := n5_; clear n0_ n1_ n2_ n3_ n4_ n5_; (try clear hb); (try clear hb2); (try clear hk); (try clear hi))); go_ret; exact ⟨by first | rfl | (simp [errW_none, errW_some] <;> rfl) | (simp only [← hji83]; first | rfl | (simp [errW_none, errW_some] <;> rfl)) | (simp [*, errW_none, errW_some] <;> rfl), qK3 HB.out GE483.out GE503.out GE515.out⟩
                ·rw [if_neg c98] at H; have c98b0 : (t487 == 0) = false := beq_eq_false_iff_ne.mpr c98; have c98b1 : (t487 != 0) = true := bne_iff_ne.mpr c98; obtain rfl := Option.some.inj H; go_wp2; go_ret; exact ⟨by first | rfl | (simp [errW_none, errW_some] <;> rfl) | (simp only [← hji83]; first | rfl | (simp [errW_none, errW_some] <;> rfl)) | (simp [*, errW_none, errW_some] <;> rfl), qK3 HB.out GE483.out GE503.out GE515.out⟩
            ·rw [if_neg c85] at H; exact absurd H (by simp)
           ·rw [if_neg c84] at H; exact absurd H (by simp)
          ·replace c82 := Bool.eq_false_iff.mpr c82; subst c82; have H1 : (if t487 = 0 then ((impl_CrossingsOf.f kj79 t479 t480 t481 t484 false).bind fun bt533 => (if bt533.2 = 0 then (if bt533.1 = t494 then (if (t488.length : Int) > 0 then (if 0 ≤ (wrap64 ((t488.length : Int) - 1)) then (if (wrap64 ((t488.length : Int) - 1)) < (t488.length : Int) then (some (((rd_T53 t488 (wrap64 ((t488.length : Int) - 1))).f1) == t482)) else (none)) else (none)) else (some false)) else (some false)) else (some false))) else (some true)) = some r := by rw [if_neg (show ¬ (false = true) by decide)] at H; exact H
           clear H; have H := H1; clear H1
           by_cases c128 : t487 = 0
           ·rw [if_pos c128] at H; have c128b0 : (t487 == 0) = true := beq_iff_eq.mpr c128; have c128b1 : (t487 != 0) = false := bne_eq_false_iff_eq.mpr c128; clear c128; replace H := Option.bind_eq_some_iff.mp H; obtain ⟨⟨t533, t534⟩, A1290, H⟩ := H; (try dsimp only at H); have A129 := A' A1290; clear A1290
            by_cases c130 : t534 = 0
            ·rw [if_pos c130] at H; have c130b0 : (t534 == 0) = true := beq_iff_eq.mpr c130; have c130b1 : (t534 != 0) = false := bne_eq_false_iff_eq.mpr c130; clear c130
             by_cases c131 : t533 = t494
             ·rw [if_pos c131] at H; have c131b0 : (t533 == t494) = true := beq_iff_eq.mpr c131; have c131b1 : (t533 != t494) = false := bne_eq_false_iff_eq.mpr c131; clear c131
              by_cases c132 : (t488.length : Int) > 0
              ·rw [if_pos c132] at H; have c132b0 : decide (0 < (t488.length : Int)) = true := dT' c132; have c132b1 : decide (0 < t488.length) = true := dT' (by omega); clear c132; obtain ⟨ji133, hji133⟩ : ∃ j_ : Int, (wrap64 ((t488.length : Int) - 1)) = j_ := ⟨_, rfl⟩
               replace H : (if 0 ≤ (ji133) then (if (ji133) < (t488.length : Int) then (some (((rd_T53 t488 (ji133)).f1) == t482)) else (none)) else (none)) = some r := by first | (rw [hji133] at H; exact H) | (simp only [hji133] at H ⊢; exact H)
               (try rw [hji133] at A129); have hji133w : (IntKind.i64.wrap ((t488.length : Int) - 1)) = ji133 := (i64_w _).trans hji133
               by_cases c134 : 0 ≤ (ji133)
               ·rw [if_pos c134] at H; have c134b0 : decide (0 ≤ (ji133)) = true := dT' c134; clear c134
                by_cases c135 : (ji133) < (t488.length : Int)
                ·rw [if_pos c135] at H; have c135b0 : decide ((ji133) < (t488.length : Int)) = true := dT' c135; clear c135; obtain rfl := Option.some.inj H; have hnb136 := NB483_503.out; have hnc136 := NB503_483.out; have hnb137 := NB483_515.out; have hnc137 := NB515_483.out; have hcz138_0 : wc.cell? ⟨gb483, 0, none⟩ = some (.int .i64 t479) := (N' BK483.out 0).trans rfl; have hcz138_1 : wc.cell? ⟨gb483, 1, none⟩ = some (.int .i64 t480) := (N' BK483.out 1).trans rfl; have hcz138_2 : wc.cell? ⟨gb483, 2, none⟩ = some (.bool t481) := (N' BK483.out 2).trans rfl; have hfz138_0 := Y' BK483.out 0; have hfz138_1 := Y' BK483.out 1; have hfz138_2 := Y' BK483.out 2; obtain ⟨Ao139, co139, eo139⟩ := Kd.R_slice HO_5.out; subst eo139; go_wp2_with (first | ((with_reducible refine gate_callee (f := 25) rfl ?_); refine goesL_ (some 216) rfl rfl Try.func25 (by kernel_rfl) rfl #[.agg #[.int .i64 t479, .int .i64 t480, .bool t481], .slice Ao139 t484.length co139, .bool false] rfl (by (try simp only [List.map_toArray, List.map_cons, List.map_nil]); first | done | rfl | (simp only [List.length_drop, List.length_take]; rfl)) ?_; (with_reducible refine (impl_CrossingsOf.calls kj79 t479 t480 t481 _ _ t484 false t533 t534 _ ?side1 ?side2 A129.out).mono ?_); (case side1 => repeat (first | exact (Kd.R_reads' HO_5.out).2.2 | (with_reducible refine R' ?_ _) | (with_reducible refine S' ?_ _) | (with_reducible refine T' ?_))); (case side2 => exact (Kd.R_reads' HO_5.out).2.1); rintro e w140 ⟨rfl, hb⟩; refine ⟨_, rfl, ?_⟩; have n0_ := A' (L' (qR HO_5.out) hb); have n1_ := A' (L' (qR HO_7.out) hb); have n2_ := A' (L' (qR HO_14.out) hb); have n3_ := A' (O' (g := gb483) (qB BK483.out) hb); have n4_ := A' (O' (g := gb503) (qB BK503.out) hb); have n5_ := A' (O' (g := gb515) (qB BK515.out) hb); have n6_ := A' (W' (qK3 HB.out GE483.out GE503.out GE515.out) hb); clear HO_5; clear HO_7; clear HO_14; clear BK483; clear BK503; clear BK515; clear HB; have HO_5 := n0_; have HO_7 := n1_; have HO_14 := n2_; have BK483 := n3_; have BK503 := n4_; have BK515 := n5_; have HB := n6_; clear n0_ n1_ n2_ n3_ n4_ n5_ n6_; (try clear hb); (try clear hb2); (try clear hk); (try clear hi); obtain ⟨Ao141, co141, eo141⟩ := Kd.R_slice HO_7.out; subst eo141; have p535 : 0 ≤ ((ji133) : Int) := oD' qA; have q535 : (ji133) < (t488.length : Int) := oD' qA; obtain ⟨ad535, e535, hx535_0, hx535_1⟩ := at_T53 (Kd.R_reads' HO_7.out).2.2 (ji133) p535 q535; cases e535; replace p535 := eq_true p535; replace q535 := eq_true q535)); go_ret; exact ⟨by first | rfl | (simp [errW_none, errW_some] <;> rfl) | (simp only [← hji133]; first | rfl | (simp [errW_none, errW_some] <;> rfl)) | (simp [*, errW_none, errW_some] <;> rfl), qK3 HB.out GE483.out GE503.out GE515.out⟩
                ·rw [if_neg c135] at H; exact absurd H (by simp)
               ·rw [if_neg c134] at H; exact absurd H (by simp)
              ·rw [if_neg c132] at H; have c132b0 : decide (0 < (t488.length : Int)) = false := dF' c132; have c132b1 : decide (0 < t488.length) = false := dF' (by omega); clear c132; obtain rfl := Option.some.inj H; have hnb142 := NB483_503.out; have hnc142 := NB503_483.out; have hnb143 := NB483_515.out; have hnc143 := NB515_483.out; have hcz144_0 : wc.cell? ⟨gb483, 0, none⟩ = some (.int .i64 t479) := (N' BK483.out 0).trans rfl; have hcz144_1 : wc.cell? ⟨gb483, 1, none⟩ = some (.int .i64 t480) := (N' BK483.out 1).trans rfl; have hcz144_2 : wc.cell? ⟨gb483, 2, none⟩ = some (.bool t481) := (N' BK483.out 2).trans rfl; have hfz144_0 := Y' BK483.out 0; have hfz144_1 := Y' BK483.out 1; have hfz144_2 := Y' BK483.out 2; obtain ⟨Ao145, co145, eo145⟩ := Kd.R_slice HO_5.out; subst eo145; go_wp2_with (first | ((with_reducible refine gate_callee (f := 25) rfl ?_); refine goesL_ (some 216) rfl rfl Try.func25 (by kernel_rfl) rfl #[.agg #[.int .i64 t479, .int .i64 t480, .bool t481], .slice Ao145 t484.length co145, .bool false] rfl (by (try simp only [List.map_toArray, List.map_cons, List.map_nil]); first | done | rfl | (simp only [List.length_drop, List.length_take]; rfl)) ?_; (with_reducible refine (impl_CrossingsOf.calls kj79 t479 t480 t481 _ _ t484 false t533 t534 _ ?side1 ?side2 A129.out).mono ?_); (case side1 => repeat (first | exact (Kd.R_reads' HO_5.out).2.2 | (with_reducible refine R' ?_ _) | (with_reducible refine S' ?_ _) | (with_reducible refine T' ?_))); (case side2 => exact (Kd.R_reads' HO_5.out).2.1); rintro e w146 ⟨rfl, hb⟩; refine ⟨_, rfl, ?_⟩; have n0_ := A' (L' (qR HO_5.out) hb); have n1_ := A' (L' (qR HO_7.out) hb); have n2_ := A' (L' (qR HO_14.out) hb); have n3_ := A' (O' (g := gb483) (qB BK483.out) hb); have n4_ := A' (O' (g := gb503) (qB BK503.out) hb); have n5_ := A' (O' (g := gb515) (qB BK515.out) hb); have n6_ := A' (W' (qK3 HB.out GE483.out GE503.out GE515.out) hb); clear HO_5; clear HO_7; clear HO_14; clear BK483; clear BK503; clear BK515; clear HB; have HO_5 := n0_; have HO_7 := n1_; have HO_14 := n2_; have BK483 := n3_; have BK503 := n4_; have BK515 := n5_; have HB := n6_; clear n0_ n1_ n2_ n3_ n4_ n5_ n6_; (try clear hb); (try clear hb2); (try clear hk); (try clear hi); obtain ⟨Ao147, co147, eo147⟩ := Kd.R_slice HO_7.out; subst eo147)); go_ret; exact ⟨qE, qK3 HB.out GE483.out GE503.out GE515.out⟩
             ·rw [if_neg c131] at H; have c131b0 : (t533 == t494) = false := beq_eq_false_iff_ne.mpr c131; have c131b1 : (t533 != t494) = true := bne_iff_ne.mpr c131; obtain rfl := Option.some.inj H; have hnb148 := NB483_503.out; have hnc148 := NB503_483.out; have hnb149 := NB483_515.out; have hnc149 := NB515_483.out; have hcz150_0 : wc.cell? ⟨gb483, 0, none⟩ = some (.int .i64 t479) := (N' BK483.out 0).trans rfl; have hcz150_1 : wc.cell? ⟨gb483, 1, none⟩ = some (.int .i64 t480) := (N' BK483.out 1).trans rfl; have hcz150_2 : wc.cell? ⟨gb483, 2, none⟩ = some (.bool t481) := (N' BK483.out 2).trans rfl; have hfz150_0 := Y' BK483.out 0; have hfz150_1 := Y' BK483.out 1; have hfz150_2 := Y' BK483.out 2; obtain ⟨Ao151, co151, eo151⟩ := Kd.R_slice HO_5.out; subst eo151; go_wp2_with (first | ((with_reducible refine gate_callee (f := 25) rfl ?_); refine goesL_ (some 216) rfl rfl Try.func25 (by kernel_rfl) rfl #[.agg #[.int .i64 t479, .int .i64 t480, .bool t481], .slice Ao151 t484.length co151, .bool false] rfl (by (try simp only [List.map_toArray, List.map_cons, List.map_nil]); first | done | rfl | (simp only [List.length_drop, List.length_take]; rfl)) ?_; (with_reducible refine (impl_CrossingsOf.calls kj79 t479 t480 t481 _ _ t484 false t533 t534 _ ?side1 ?side2 A129.out).mono ?_); (case side1 => repeat (first | exact (Kd.R_reads' HO_5.out).2.2 | (with_reducible refine R' ?_ _) | (with_reducible refine S' ?_ _) | (with_reducible refine T' ?_))); (case side2 => exact (Kd.R_reads' HO_5.out).2.1); rintro e w152 ⟨rfl, hb⟩; refine ⟨_, rfl, ?_⟩; have n0_ := A' (L' (qR HO_5.out) hb); have n1_ := A' (L' (qR HO_7.out) hb); have n2_ := A' (L' (qR HO_14.out) hb); have n3_ := A' (O' (g := gb483) (qB BK483.out) hb); have n4_ := A' (O' (g := gb503) (qB BK503.out) hb); have n5_ := A' (O' (g := gb515) (qB BK515.out) hb); have n6_ := A' (W' (qK3 HB.out GE483.out GE503.out GE515.out) hb); clear HO_5; clear HO_7; clear HO_14; clear BK483; clear BK503; clear BK515; clear HB; have HO_5 := n0_; have HO_7 := n1_; have HO_14 := n2_; have BK483 := n3_; have BK503 := n4_; have BK515 := n5_; have HB := n6_; clear n0_ n1_ n2_ n3_ n4_ n5_ n6_; (try clear hb); (try clear hb2); (try clear hk); (try clear hi))); go_ret; exact ⟨qE, qK3 HB.out GE483.out GE503.out GE515.out⟩
            ·rw [if_neg c130] at H; have c130b0 : (t534 == 0) = false := beq_eq_false_iff_ne.mpr c130; have c130b1 : (t534 != 0) = true := bne_iff_ne.mpr c130; obtain rfl := Option.some.inj H; have hnb153 := NB483_503.out; have hnc153 := NB503_483.out; have hnb154 := NB483_515.out; have hnc154 := NB515_483.out; have hcz155_0 : wc.cell? ⟨gb483, 0, none⟩ = some (.int .i64 t479) := (N' BK483.out 0).trans rfl; have hcz155_1 : wc.cell? ⟨gb483, 1, none⟩ = some (.int .i64 t480) := (N' BK483.out 1).trans rfl; have hcz155_2 : wc.cell? ⟨gb483, 2, none⟩ = some (.bool t481) := (N' BK483.out 2).trans rfl; have hfz155_0 := Y' BK483.out 0; have hfz155_1 := Y' BK483.out 1; have hfz155_2 := Y' BK483.out 2; obtain ⟨Ao156, co156, eo156⟩ := Kd.R_slice HO_5.out; subst eo156; go_wp2_with (first | ((with_reducible refine gate_callee (f := 25) rfl ?_); refine goesL_ (some 216) rfl rfl Try.func25 (by kernel_rfl) rfl #[.agg #[.int .i64 t479, .int .i64 t480, .bool t481], .slice Ao156 t484.length co156, .bool false] rfl (by (try simp only [List.map_toArray, List.map_cons, List.map_nil]); first | done | rfl | (simp only [List.length_drop, List.length_take]; rfl)) ?_; (with_reducible refine (impl_CrossingsOf.calls kj79 t479 t480 t481 _ _ t484 false t533 t534 _ ?side1 ?side2 A129.out).mono ?_); (case side1 => repeat (first | exact (Kd.R_reads' HO_5.out).2.2 | (with_reducible refine R' ?_ _) | (with_reducible refine S' ?_ _) | (with_reducible refine T' ?_))); (case side2 => exact (Kd.R_reads' HO_5.out).2.1); rintro e w157 ⟨rfl, hb⟩; refine ⟨_, rfl, ?_⟩; have n0_ := A' (L' (qR HO_5.out) hb); have n1_ := A' (L' (qR HO_7.out) hb); have n2_ := A' (L' (qR HO_14.out) hb); have n3_ := A' (O' (g := gb483) (qB BK483.out) hb); have n4_ := A' (O' (g := gb503) (qB BK503.out) hb); have n5_ := A' (O' (g := gb515) (qB BK515.out) hb); have n6_ := A' (W' (qK3 HB.out GE483.out GE503.out GE515.out) hb); clear HO_5; clear HO_7; clear HO_14; clear BK483; clear BK503; clear BK515; clear HB; have HO_5 := n0_; have HO_7 := n1_; have HO_14 := n2_; have BK483 := n3_; have BK503 := n4_; have BK515 := n5_; have HB := n6_; clear n0_ n1_ n2_ n3_ n4_ n5_ n6_; (try clear hb); (try clear hb2); (try clear hk); (try clear hi))); go_ret; exact ⟨qE, qK3 HB.out GE483.out GE503.out GE515.out⟩
           ·rw [if_neg c128] at H; have c128b0 : (t487 == 0) = false := beq_eq_false_iff_ne.mpr c128; have c128b1 : (t487 != 0) = true := bne_iff_ne.mpr c128; obtain rfl := Option.some.inj H; go_wp2; go_ret; exact ⟨qE, qK3 HB.out GE483.out GE503.out GE515.out⟩

/-- THE ONE PURE STATEMENT of laws_FnCrossings: yours. -/
def laws_FnCrossings.Pure : Prop := ∀ (l0 : List Int), l0.length ≤ maxLen → l0.length * 1 ≤ 140737488351232 → (∀ x ∈ l0, (Lit.int .u8 x).wf = true) → ∃ k, laws_FnCrossings.f k l0 = some true
theorem laws_FnCrossings.walk (P : laws_FnCrossings.Pure) (a0 : Option Addr) (len0 cap0 : Nat) (z0 : List Int) (w : World) (w0 : (a0 = none ∧ len0 = 0 ∧ cap0 = 0 ∧ z0 = []) ∨ ∃ x, a0 = some x ∧ len0 ≤ cap0 ∧ cap0 ≤ maxLen ∧ z0.length = cap0 ∧ (∀ i, i < z0.length → w.cell? (x.add i) = some (.int .u8 (z0.getD i 0))) ∧ ∀ n ∈ z0, (Lit.int .u8 n).wf = true) (y0 : len0 * 1 ≤ 140737488351232) :
  Calls Try.prog 6 #[.slice a0 len0 cap0] w fun e w' => e = .returned (.bool true) ∧ Below w.heap.size w w' := by
 obtain ⟨l0, rfl, hr0, hm0, hw0, hc0⟩ := ReadsInt.ofRowC w0; obtain ⟨k, h⟩ := P l0 hm0 y0 hw0; refine (laws_FnCrossings.calls k _ _ l0 true w (Kd.C_of_reads (d := (0 : Int)) (h1 := fun _ => rfl) hr0) hc0 h).mono ?_; rintro e w' ⟨rfl, hd⟩; exact ⟨rfl, hd⟩

end Go.Proofs.Ytifdihbndlmgpaa.HCro
