/- The pure half of FnExactRatioSign: the printed Lean functions of the program and of the reference agree, so the law's function answers true. Conditions: those of the statement, spelled at the theorem. -/
import Derived.Test.YteghfiladifjpaaPFnExactRatioSignx
import Derived.Test.YteghfiladifjpaaBase
namespace Go.Proofs.Yteghfiladifjpaa.Pure
open Go.RowKit Go.Proofs.Yteghfiladifjpaa.PFnExactRatioSign Go.Proofs.YteghfiladifjpaaW.PrintWords Go.Proofs.YteghfiladifjpaaW.PrintLast

theorem spec_in_eq (a b c : Int) : spec_l01In.f a b c = some (decide (b ≤ a ∧ a ≤ c)) := by
  unfold spec_l01In.f
  by_cases h : b ≤ a <;> simp [h]
theorem impl_in_eq (a b c : Int) : impl_in.f a b c = some (decide (b ≤ a ∧ a ≤ c)) := by
  unfold impl_in.f
  by_cases h : b ≤ a <;> simp [h]

theorem spec_amt_eq (a : Int) : spec_l01Amt.f a = some (decide (0 ≤ a ∧ a ≤ 1000000000)) := by
  unfold spec_l01Amt.f
  simp only [spec_in_eq, Option.bind_some]
theorem impl_size_eq (a : Int) : impl_isSize.f a = some (decide (0 ≤ a ∧ a ≤ 1000000000)) := by
  unfold impl_isSize.f
  simp only [impl_in_eq, Option.bind_some]

theorem cmp_eq (a b : Int) : cmp_Compare_int.f a b = some (if a < b then -1 else if a > b then 1 else 0) := by
  unfold cmp_Compare_int.f cmp_isNaN_int.f
  by_cases h1 : a < b <;> by_cases h2 : a > b <;> simp [h1, h2]
def signI (s n t : Int) : Int := if (0 ≤ s ∧ s ≤ 1000000000) ∧ (1 ≤ n ∧ n ≤ 1000) ∧ (1 ≤ t ∧ t ≤ 1000000) then (if s < wrap64 (n * t) then -1 else if s > wrap64 (n * t) then 1 else 0) else 2
theorem impl_RatioSign_eq (s n t : Int) : impl_RatioSign.f s n t = some (signI s n t) := by
  unfold impl_RatioSign.f signI
  simp only [impl_size_eq, impl_in_eq, cmp_eq, Option.bind_some, decide_eq_true_eq]
  by_cases h1 : 0 ≤ s ∧ s ≤ 1000000000 <;> by_cases h2 : 1 ≤ n ∧ n ≤ 1000 <;> by_cases h3 : 1 ≤ t ∧ t ≤ 1000000 <;> simp [h1, h2, h3]
theorem spec_RatioSign_eq (s n t : Int) (k : Nat) (hk : 0 < k) : spec_RatioSign.f k s n t = some (signI s n t) := by
  obtain ⟨k, rfl⟩ : ∃ m, k = m + 1 := ⟨k - 1, by omega⟩
  unfold spec_RatioSign.f signI
  simp only [spec_amt_eq, spec_in_eq, Option.bind_some, decide_eq_true_eq, spec_RatioSign.j0]
  by_cases h1 : 0 ≤ s ∧ s ≤ 1000000000 <;> by_cases h2 : 1 ≤ n ∧ n ≤ 1000 <;> by_cases h3 : 1 ≤ t ∧ t ≤ 1000000 <;> by_cases h4 : s < wrap64 (n * t) <;> by_cases h5 : s > wrap64 (n * t) <;> simp [h1, h2, h3, h4, h5]

theorem FnExactRatioSign : laws_FnExactRatioSign.Pure := by
  intro s n t _ _ _
  refine ⟨1, ?_⟩
  unfold laws_FnExactRatioSign.f
  simp only [spec_RatioSign_eq s n t 1 (by omega), impl_RatioSign_eq, Option.bind_some, if_true]

end Go.Proofs.Yteghfiladifjpaa.Pure
