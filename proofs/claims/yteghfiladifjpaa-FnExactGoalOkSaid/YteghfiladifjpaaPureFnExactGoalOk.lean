/- The pure half of FnExactGoalOk: the printed Lean functions of the program and of the reference agree, so the law's function answers true. Conditions: those of the statement, spelled at the theorem. -/
import Derived.Test.YteghfiladifjpaaPFnExactGoalOkx
import Derived.Test.YteghfiladifjpaaBase
namespace Go.Proofs.Yteghfiladifjpaa.Pure
open Go.RowKit Go.Proofs.Yteghfiladifjpaa.PFnExactGoalOk Go.Proofs.YteghfiladifjpaaW.PrintWords Go.Proofs.YteghfiladifjpaaW.PrintLast

theorem spec_in_eq (a b c : Int) : spec_l01In.f a b c = some (decide (b ≤ a ∧ a ≤ c)) := by
  unfold spec_l01In.f
  by_cases h : b ≤ a <;> simp [h]
theorem impl_in_eq (a b c : Int) : impl_in.f a b c = some (decide (b ≤ a ∧ a ≤ c)) := by
  unfold impl_in.f
  by_cases h : b ≤ a <;> simp [h]

theorem spec_NameOk_l0 (s : ByteArray) (hs : s.size ≤ maxLen) (d : Nat) : ∀ (k : Nat) (i : Int), 0 ≤ i → (s.size : Int) - i = d → d < k → spec_NameOk.l0 k s i = some (Base.nameRest s d i) := by
  unfold maxLen at hs
  induction d with
  | zero =>
    intro k i h0 hd hk
    obtain ⟨k, rfl⟩ : ∃ m, k = m + 1 := ⟨k - 1, by omega⟩
    simp only [spec_NameOk.l0]
    rw [if_neg (by omega)]
    rfl
  | succ d ih =>
    intro k i h0 hd hk
    obtain ⟨k, rfl⟩ : ∃ m, k = m + 1 := ⟨k - 1, by omega⟩
    have hr := ih k (i + 1) (by omega) (by omega) (by omega)
    simp only [spec_NameOk.l0]
    rw [if_pos (by omega), if_pos h0, Base.wrap_in (by omega) (by omega), hr]
    simp only [Base.nameRest, Base.chr]
    by_cases h1 : bt s i < 97 <;> by_cases h2 : bt s i < 48 <;> by_cases h3 : bt s i > 57 <;> by_cases h4 : bt s i > 122 <;> simp [h1, h2, h3, h4]
theorem spec_NameOk_eq (s : ByteArray) (hs : s.size ≤ maxLen) (k : Nat) (hk : s.size < k) : spec_NameOk.f k s = some (Base.nameB s) := by
  unfold spec_NameOk.f Base.nameB
  rw [spec_in_eq, spec_NameOk_l0 s hs s.size k 0 (by omega) (by omega) hk]
  by_cases h : 1 ≤ (s.size : Int) ∧ (s.size : Int) ≤ 12 <;> simp [h]
theorem impl_NameOk_l0 (s : ByteArray) (hs : s.size ≤ maxLen) (d : Nat) : ∀ (k : Nat) (i : Int), 0 ≤ i → (s.size : Int) - i = d → d < k → impl_NameOk.l0 k s (s.size : Int) i = some (Base.nameRest s d i && decide (1 ≤ (s.size : Int) ∧ (s.size : Int) ≤ 12)) := by
  unfold maxLen at hs
  induction d with
  | zero =>
    intro k i h0 hd hk
    obtain ⟨k, rfl⟩ : ∃ m, k = m + 1 := ⟨k - 1, by omega⟩
    simp only [impl_NameOk.l0]
    rw [if_neg (by omega), impl_in_eq]
    simp [Base.nameRest]
  | succ d ih =>
    intro k i h0 hd hk
    obtain ⟨k, rfl⟩ : ∃ m, k = m + 1 := ⟨k - 1, by omega⟩
    have hr := ih k (i + 1) (by omega) (by omega) (by omega)
    simp only [impl_NameOk.l0]
    rw [if_pos (by omega), if_pos h0, if_pos (by omega), Base.wrap_in (by omega) (by omega), hr]
    simp only [Base.nameRest, Base.chr]
    by_cases h1 : bt s i < 97 <;> by_cases h2 : bt s i < 48 <;> by_cases h3 : bt s i > 57 <;> by_cases h4 : bt s i > 122 <;> simp [h1, h2, h3, h4]
theorem impl_NameOk_eq (s : ByteArray) (hs : s.size ≤ maxLen) (k : Nat) (hk : s.size < k) : impl_NameOk.f k s = some (Base.nameB s) := by
  unfold impl_NameOk.f Base.nameB
  exact impl_NameOk_l0 s hs s.size k 0 (by omega) (by omega) hk

theorem spec_GoalOk_eq (s : ByteArray) (t l : Int) (hs : s.size ≤ maxLen) (k : Nat) (hk : s.size < k) : spec_GoalOk.f k s t l = some (Base.goalB s t l) := by
  unfold spec_GoalOk.f Base.goalB
  rw [spec_NameOk_eq s hs k hk, spec_in_eq, spec_in_eq]
  by_cases h1 : Base.nameB s = true <;> by_cases h2 : 1 ≤ t ∧ t ≤ 1000000 <;> simp [h1, h2]
theorem impl_GoalOk_eq (s : ByteArray) (t l : Int) (hs : s.size ≤ maxLen) (k : Nat) (hk : s.size < k) : impl_GoalOk.f k s t l = some (Base.goalB s t l) := by
  unfold impl_GoalOk.f Base.goalB
  rw [impl_NameOk_eq s hs k hk, impl_in_eq, impl_in_eq]
  by_cases h1 : Base.nameB s = true <;> by_cases h2 : 1 ≤ t ∧ t ≤ 1000000 <;> simp [h1, h2]

theorem FnExactGoalOk (s : ByteArray) (t l : Int) (hs : s.size ≤ maxLen) (_ : (Lit.int .i64 t).wf = true) (_ : (Lit.int .i64 l).wf = true) : ∃ k, laws_FnExactGoalOk.f k s t l = some true := by
  refine ⟨s.size + 1, ?_⟩
  unfold laws_FnExactGoalOk.f laws_szGoal.f laws_toGoal.f
  simp only [Option.bind_some, spec_GoalOk_eq s t l hs (s.size + 1) (by omega), impl_GoalOk_eq s t l hs (s.size + 1) (by omega)]
  by_cases h : wrap64 (1048576 - (s.size : Int)) < 0 <;> simp [h]

end Go.Proofs.Yteghfiladifjpaa.Pure
