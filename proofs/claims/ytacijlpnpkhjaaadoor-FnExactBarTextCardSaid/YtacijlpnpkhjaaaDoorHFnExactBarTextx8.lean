-- Written by a program for this claim (the functions that the statement reaches, and that the program's code comes to them).
import Derived.Test.YtacijlpnpkhjaaaDoorHFnExactBarTextx0
import Derived.Test.YtacijlpnpkhjaaaDoorHFnExactBarTextx7
namespace Go.Proofs.YtacijlpnpkhjaaaDoor.HFnExactBarText
open Go.RowKit Go.Proofs.YtacijlpnpkhjaaaDoorW.PrintWords Go.Proofs.YtacijlpnpkhjaaaDoorW.PrintLast Go.Proofs.YtacijlpnpkhjaaaDoorW.PrintMore
attribute [local go_sem] max2_int min2_int max_two min_two max_three min_three max_four min_four   -- for this text's walks alone
set_option linter.unusedVariables false
set_option linter.unusedSimpArgs false

/-- THE ONE PURE STATEMENT of laws_FnExactBarText. -/
def laws_FnExactBarText.Pure : Prop := ∀ (l0_0 : List (S53)) (l0_1 : List (S55)) (a1 : Int), l0_0.length ≤ maxLen → (∀ x ∈ l0_0, ((Lit.int .i64 x.f0).wf = true) ∧ ((Lit.int .i64 x.f1).wf = true) ∧ (True)) → l0_1.length ≤ maxLen → (∀ x ∈ l0_1, ((Lit.int .i64 x.f0).wf = true) ∧ ((Lit.int .i64 x.f1).wf = true) ∧ (True)) → (Lit.int .i64 a1).wf = true → ∃ k, laws_FnExactBarText.f k l0_0 l0_1 a1 = some true

end Go.Proofs.YtacijlpnpkhjaaaDoor.HFnExactBarText
