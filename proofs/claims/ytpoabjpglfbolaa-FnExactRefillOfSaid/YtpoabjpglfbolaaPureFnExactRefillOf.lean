/- The pure half of FnExactRefillOf: the printed Lean functions of the program and of the reference agree, so the law's function answers true. Conditions: those of the statement, spelled at the theorem. -/
import Derived.Test.YtpoabjpglfbolaaPFnExactRefillOfx
import Derived.Test.YtpoabjpglfbolaaBase
namespace Go.Proofs.Ytpoabjpglfbolaa.Pure
open Go.RowKit Go.Proofs.Ytpoabjpglfbolaa.PFnExactRefillOf Go.Proofs.YtpoabjpglfbolaaW.PrintWords Go.Proofs.YtpoabjpglfbolaaW.PrintLast
set_option linter.unusedSimpArgs false
set_option linter.unusedVariables false

theorem spec_in_eq (a b c : Int) : spec_l01In.f a b c = some (decide (b ≤ a ∧ a ≤ c)) := by
  unfold spec_l01In.f
  by_cases h : b ≤ a <;> simp [h]
theorem impl_in_eq (a b c : Int) : impl_in.f a b c = some (decide (b ≤ a ∧ a ≤ c)) := by
  unfold impl_in.f
  by_cases h : b ≤ a <;> simp [h]

theorem spec_amt_eq (a : Int) : spec_l01Amt.f a = some (decide (0 ≤ a ∧ a ≤ 1000000000)) := by
  unfold spec_l01Amt.f
  simp only [spec_in_eq, Option.bind_some]
theorem impl_size_eq (a : Int) : impl_isSize.f a = some (decide (0 ≤ a ∧ a ≤ 1000000000)) := by
  unfold impl_isSize.f
  simp only [impl_in_eq, Option.bind_some]

def usableB (r u m s : Int) : Bool := decide (1 ≤ r ∧ r ≤ 12) && (decide (0 ≤ u ∧ u ≤ 12) && (decide (0 ≤ m ∧ m ≤ 12) && decide (0 ≤ s ∧ s ≤ 1000000000)))
theorem usable_of {r u m s : Int} (h : usableB r u m s = true) : (1 ≤ r ∧ r ≤ 12) ∧ (0 ≤ u ∧ u ≤ 12) ∧ (0 ≤ m ∧ m ≤ 12) ∧ (0 ≤ s ∧ s ≤ 1000000000) := by
  simp only [usableB, Bool.and_eq_true, decide_eq_true_eq] at h
  exact h
theorem spec_usable_eq (r u m s : Int) : spec_l05Usable.f r u m s = some (usableB r u m s) := by
  unfold spec_l05Usable.f usableB
  simp only [spec_in_eq, spec_amt_eq, Option.bind_some]
  by_cases h1 : 1 ≤ r ∧ r ≤ 12 <;> by_cases h2 : 0 ≤ u ∧ u ≤ 12 <;> by_cases h3 : 0 ≤ m ∧ m ≤ 12 <;> simp [h1, h2, h3]
theorem impl_usable_eq (r u m s : Int) : impl_Tally_usable.f r u m s = some (usableB r u m s) := by
  unfold impl_Tally_usable.f usableB
  simp only [impl_in_eq, impl_size_eq, Option.bind_some]
  by_cases h1 : 1 ≤ r ∧ r ≤ 12 <;> by_cases h2 : 0 ≤ u ∧ u ≤ 12 <;> by_cases h3 : 0 ≤ m ∧ m ≤ 12 <;> simp [h1, h2, h3]
theorem goal_of {nm : ByteArray} {t l : Int} (h : Base.goalB nm t l = true) : (1 ≤ t ∧ t ≤ 1000000) ∧ (0 ≤ l ∧ l ≤ 1000) := by
  simp only [Base.goalB, Bool.and_eq_true, decide_eq_true_eq] at h
  exact ⟨h.1.2, h.2⟩

theorem cmp_eq (a b : Int) : cmp_Compare_int.f a b = some (if a < b then -1 else if a > b then 1 else 0) := by
  unfold cmp_Compare_int.f cmp_isNaN_int.f
  by_cases h1 : a < b <;> by_cases h2 : a > b <;> simp [h1, h2]
def signI (s n t : Int) : Int := if (0 ≤ s ∧ s ≤ 1000000000) ∧ (1 ≤ n ∧ n ≤ 1000) ∧ (1 ≤ t ∧ t ≤ 1000000) then (if s < wrap64 (n * t) then -1 else if s > wrap64 (n * t) then 1 else 0) else 2
theorem impl_RatioSign_eq (s n t : Int) : impl_RatioSign.f s n t = some (signI s n t) := by
  unfold impl_RatioSign.f signI
  simp only [impl_size_eq, impl_in_eq, cmp_eq, Option.bind_some, decide_eq_true_eq]
  by_cases h1 : 0 ≤ s ∧ s ≤ 1000000000 <;> by_cases h2 : 1 ≤ n ∧ n ≤ 1000 <;> by_cases h3 : 1 ≤ t ∧ t ≤ 1000000 <;> simp [h1, h2, h3]
theorem spec_RatioSign_eq (s n t : Int) (k : Nat) (hk : 0 < k) : spec_RatioSign.f k s n t = some (signI s n t) := by
  obtain ⟨k, rfl⟩ : ∃ m, k = m + 1 := ⟨k - 1, by omega⟩
  unfold spec_RatioSign.f signI
  simp only [spec_amt_eq, spec_in_eq, Option.bind_some, decide_eq_true_eq, spec_RatioSign.j0]
  by_cases h1 : 0 ≤ s ∧ s ≤ 1000000000 <;> by_cases h2 : 1 ≤ n ∧ n ≤ 1000 <;> by_cases h3 : 1 ≤ t ∧ t ≤ 1000000 <;> by_cases h4 : s < wrap64 (n * t) <;> by_cases h5 : s > wrap64 (n * t) <;> simp [h1, h2, h3, h4, h5]

theorem spec_NameOk_l0 (s : ByteArray) (hs : s.size ≤ maxLen) (d : Nat) : ∀ (k : Nat) (i : Int), 0 ≤ i → (s.size : Int) - i = d → d < k → spec_NameOk.l0 k s i = some (Base.nameRest s d i) := by
  unfold maxLen at hs
  induction d with
  | zero =>
    intro k i h0 hd hk
    obtain ⟨k, rfl⟩ : ∃ m, k = m + 1 := ⟨k - 1, by omega⟩
    simp only [spec_NameOk.l0]
    rw [if_neg (by omega)]
    rfl
  | succ d ih =>
    intro k i h0 hd hk
    obtain ⟨k, rfl⟩ : ∃ m, k = m + 1 := ⟨k - 1, by omega⟩
    have hr := ih k (i + 1) (by omega) (by omega) (by omega)
    simp only [spec_NameOk.l0]
    rw [if_pos (by omega), if_pos h0, Base.wrap_in (by omega) (by omega), hr]
    simp only [Base.nameRest, Base.chr]
    by_cases h1 : bt s i < 97 <;> by_cases h2 : bt s i < 48 <;> by_cases h3 : bt s i > 57 <;> by_cases h4 : bt s i > 122 <;> simp [h1, h2, h3, h4]
theorem spec_NameOk_eq (s : ByteArray) (hs : s.size ≤ maxLen) (k : Nat) (hk : s.size < k) : spec_NameOk.f k s = some (Base.nameB s) := by
  unfold spec_NameOk.f Base.nameB
  rw [spec_in_eq, spec_NameOk_l0 s hs s.size k 0 (by omega) (by omega) hk]
  by_cases h : 1 ≤ (s.size : Int) ∧ (s.size : Int) ≤ 12 <;> simp [h]
theorem impl_NameOk_l0 (s : ByteArray) (hs : s.size ≤ maxLen) (d : Nat) : ∀ (k : Nat) (i : Int), 0 ≤ i → (s.size : Int) - i = d → d < k → impl_NameOk.l0 k s (s.size : Int) i = some (Base.nameRest s d i && decide (1 ≤ (s.size : Int) ∧ (s.size : Int) ≤ 12)) := by
  unfold maxLen at hs
  induction d with
  | zero =>
    intro k i h0 hd hk
    obtain ⟨k, rfl⟩ : ∃ m, k = m + 1 := ⟨k - 1, by omega⟩
    simp only [impl_NameOk.l0]
    rw [if_neg (by omega), impl_in_eq]
    simp [Base.nameRest]
  | succ d ih =>
    intro k i h0 hd hk
    obtain ⟨k, rfl⟩ : ∃ m, k = m + 1 := ⟨k - 1, by omega⟩
    have hr := ih k (i + 1) (by omega) (by omega) (by omega)
    simp only [impl_NameOk.l0]
    rw [if_pos (by omega), if_pos h0, if_pos (by omega), Base.wrap_in (by omega) (by omega), hr]
    simp only [Base.nameRest, Base.chr]
    by_cases h1 : bt s i < 97 <;> by_cases h2 : bt s i < 48 <;> by_cases h3 : bt s i > 57 <;> by_cases h4 : bt s i > 122 <;> simp [h1, h2, h3, h4]
theorem impl_NameOk_eq (s : ByteArray) (hs : s.size ≤ maxLen) (k : Nat) (hk : s.size < k) : impl_NameOk.f k s = some (Base.nameB s) := by
  unfold impl_NameOk.f Base.nameB
  exact impl_NameOk_l0 s hs s.size k 0 (by omega) (by omega) hk

theorem spec_GoalOk_eq (s : ByteArray) (t l : Int) (hs : s.size ≤ maxLen) (k : Nat) (hk : s.size < k) : spec_GoalOk.f k s t l = some (Base.goalB s t l) := by
  unfold spec_GoalOk.f Base.goalB
  rw [spec_NameOk_eq s hs k hk, spec_in_eq, spec_in_eq]
  by_cases h1 : Base.nameB s = true <;> by_cases h2 : 1 ≤ t ∧ t ≤ 1000000 <;> simp [h1, h2]
theorem impl_GoalOk_eq (s : ByteArray) (t l : Int) (hs : s.size ≤ maxLen) (k : Nat) (hk : s.size < k) : impl_GoalOk.f k s t l = some (Base.goalB s t l) := by
  unfold impl_GoalOk.f Base.goalB
  rw [impl_NameOk_eq s hs k hk, impl_in_eq, impl_in_eq]
  by_cases h1 : Base.nameB s = true <;> by_cases h2 : 1 ≤ t ∧ t ≤ 1000000 <;> simp [h1, h2]

theorem mul_in (b t : Int) (h1 : 0 ≤ b ∧ b ≤ 1000000000) (h2 : 0 ≤ t ∧ t ≤ 1000000) : 0 ≤ b * t ∧ b * t ≤ 1000000000000000 :=
  ⟨Int.mul_nonneg h1.1 h2.1, Int.le_trans (Int.mul_le_mul h1.2 h2.2 h2.1 (by omega)) (by omega)⟩

def refillP (r u m s t : Int) : Int × Int := if u + m = 0 then (s, r) else if signI s r t = -1 then (s + m * t, r + m) else if signI s r t = 1 then (s, r + u + m) else (s, r)
def refillV (r u m s : Int) (nm : ByteArray) (t l : Int) : Int × Int := if usableB r u m s = true ∧ Base.goalB nm t l = true then refillP r u m s t else (0, 0)
theorem sign_cases (s n t : Int) (h1 : 0 ≤ s ∧ s ≤ 1000000000) (h2 : 1 ≤ n ∧ n ≤ 1000) (h3 : 1 ≤ t ∧ t ≤ 1000000) : signI s n t = -1 ∨ signI s n t = 0 ∨ signI s n t = 1 := by
  unfold signI
  rw [if_pos ⟨h1, h2, h3⟩]
  split
  · exact .inl rfl
  · split
    · exact .inr (.inr rfl)
    · exact .inr (.inl rfl)
theorem spec_RefillOf_eq (r u m s : Int) (nm : ByteArray) (t l : Int) (hs : nm.size ≤ maxLen) (k : Nat) (hk : nm.size + 1 < k) : spec_RefillOf.f k r u m s nm t l = some (refillV r u m s nm t l) := by
  obtain ⟨k, rfl⟩ : ∃ m, k = m + 1 := ⟨k - 1, by omega⟩
  unfold spec_RefillOf.f refillV
  simp only [spec_usable_eq, spec_GoalOk_eq nm t l hs (k + 1) (by omega), Option.bind_some, spec_RefillOf.j0, spec_RatioSign_eq _ _ _ k (by omega)]
  by_cases h1 : usableB r u m s = true
  · by_cases h2 : Base.goalB nm t l = true
    · obtain ⟨b1, b2, b3, b4⟩ := usable_of h1
      obtain ⟨b5, b6⟩ := goal_of h2
      have hm := mul_in m t (by omega) (by omega)
      rw [Base.wrap_in (x := u + m) (by omega) (by omega), Base.wrap_in (x := m * t) (by omega) (by omega), Base.wrap_in (x := s + m * t) (by omega) (by omega), Base.wrap_in (x := r + m) (by omega) (by omega), Base.wrap_in (x := r + u) (by omega) (by omega), Base.wrap_in (x := r + u + m) (by omega) (by omega)]
      by_cases h3 : u + m = 0 <;> by_cases h4 : signI s r t = -1 <;> by_cases h5 : signI s r t = 1 <;> simp [refillP, h1, h2, h3, h4, h5]
    · simp [h1, h2]
  · simp [h1]
theorem impl_RefillOf_eq (r u m s : Int) (nm : ByteArray) (t l : Int) (hs : nm.size ≤ maxLen) (k : Nat) (hk : nm.size + 1 < k) : impl_RefillOf.f k r u m s nm t l = some (refillV r u m s nm t l) := by
  obtain ⟨k, rfl⟩ : ∃ m, k = m + 1 := ⟨k - 1, by omega⟩
  unfold impl_RefillOf.f refillV
  simp only [impl_usable_eq, impl_GoalOk_eq nm t l hs (k + 1) (by omega), Option.bind_some, impl_RefillOf.j0, impl_RatioSign_eq]
  by_cases h1 : usableB r u m s = true
  · by_cases h2 : Base.goalB nm t l = true
    · obtain ⟨b1, b2, b3, b4⟩ := usable_of h1
      obtain ⟨b5, b6⟩ := goal_of h2
      have hm := mul_in m t (by omega) (by omega)
      obtain ⟨k, rfl⟩ : ∃ m, k = m + 1 := ⟨k - 1, by omega⟩
      simp only [h1, h2, Bool.not_true, if_true, Bool.false_eq_true, if_false, and_self, impl_RefillOf.j1]
      rw [Base.wrap_in (x := m * t) (by omega) (by omega), Base.wrap_in (x := s + m * t) (by omega) (by omega), Base.wrap_in (x := r + m) (by omega) (by omega), Base.wrap_in (x := r + u) (by omega) (by omega), Base.wrap_in (x := r + u + m) (by omega) (by omega)]
      by_cases h6 : u = 0
      · by_cases h7 : m = 0
        · simp [refillP, h6, h7]
        · rcases sign_cases s r t b4 (by omega) b5 with h | h | h <;> simp [refillP, h6, h7, h]
      · rcases sign_cases s r t b4 (by omega) b5 with h | h | h <;> simp [refillP, h6, h, show ¬ u + m = 0 by omega]
    · simp [h1, h2]
  · simp only [h1, impl_RefillOf.j0]
    simp

theorem FnExactRefillOf (r u m s : Int) (nm : ByteArray) (t l : Int) (_ : (Lit.int .i64 r).wf = true) (_ : (Lit.int .i64 u).wf = true) (_ : (Lit.int .i64 m).wf = true) (_ : (Lit.int .i64 s).wf = true) (hs : nm.size ≤ maxLen) (_ : (Lit.int .i64 t).wf = true) (_ : (Lit.int .i64 l).wf = true) : ∃ k, laws_FnExactRefillOf.f k r u m s nm t l = some true := by
  refine ⟨nm.size + 2, ?_⟩
  unfold laws_FnExactRefillOf.f laws_szGoal.f laws_toGoal.f laws_toTally.f
  simp only [Option.bind_some, spec_RefillOf_eq r u m s nm t l hs (nm.size + 2) (by omega), impl_RefillOf_eq r u m s nm t l hs (nm.size + 2) (by omega)]
  by_cases h : wrap64 (1048576 - (nm.size : Int)) < 0 <;> simp [h]

end Go.Proofs.Ytpoabjpglfbolaa.Pure
