/- The pure half of FnExactRulesOk: the two Lean functions of RulesOk agree, so the law's function answers true. Conditions: none. -/
import Derived.Test.YteghfiladifjpaaPFnExactRulesOkx
namespace Go.Proofs.Yteghfiladifjpaa.Pure
open Go.RowKit Go.Proofs.Yteghfiladifjpaa.PFnExactRulesOk Go.Proofs.YteghfiladifjpaaW.PrintWords Go.Proofs.YteghfiladifjpaaW.PrintLast

theorem rulesOk_in (a b c : Int) : spec_l01In.f a b c = some (decide (b ≤ a ∧ a ≤ c)) := by
  unfold spec_l01In.f
  by_cases h : b ≤ a <;> simp [h]
theorem rulesOk_in' (a b c : Int) : impl_in.f a b c = some (decide (b ≤ a ∧ a ≤ c)) := by
  unfold impl_in.f
  by_cases h : b ≤ a <;> simp [h]

theorem FnExactRulesOk (a0 a1 a2 : Int) (_ : (Lit.int .i64 a0).wf = true) (_ : (Lit.int .i64 a1).wf = true) (_ : (Lit.int .i64 a2).wf = true) :
    laws_FnExactRulesOk.f a0 a1 a2 = some true := by
  have e : spec_RulesOk.f a0 a1 a2 = impl_RulesOk.f a0 a1 a2 := by
    unfold spec_RulesOk.f impl_RulesOk.f
    simp only [rulesOk_in, rulesOk_in']
  have hs : ∃ r, impl_RulesOk.f a0 a1 a2 = some r := by
    unfold impl_RulesOk.f
    simp only [rulesOk_in', Option.bind_some]
    repeat' split
    all_goals exact ⟨_, rfl⟩
  obtain ⟨r, hr⟩ := hs
  unfold laws_FnExactRulesOk.f laws_toRules.f
  simp [e, hr]

end Go.Proofs.Yteghfiladifjpaa.Pure
