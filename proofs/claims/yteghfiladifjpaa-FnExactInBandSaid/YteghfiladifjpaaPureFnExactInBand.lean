/- The pure half of FnExactInBand: the printed Lean functions of the program and of the reference agree, so the law's function answers true. Conditions: those of the statement, spelled at the theorem. -/
import Derived.Test.YteghfiladifjpaaPFnExactInBandx
import Derived.Test.YteghfiladifjpaaBase
namespace Go.Proofs.Yteghfiladifjpaa.Pure
open Go.RowKit Go.Proofs.Yteghfiladifjpaa.PFnExactInBand Go.Proofs.YteghfiladifjpaaW.PrintWords Go.Proofs.YteghfiladifjpaaW.PrintLast

theorem spec_in_eq (a b c : Int) : spec_l01In.f a b c = some (decide (b ≤ a ∧ a ≤ c)) := by
  unfold spec_l01In.f
  by_cases h : b ≤ a <;> simp [h]
theorem impl_in_eq (a b c : Int) : impl_in.f a b c = some (decide (b ≤ a ∧ a ≤ c)) := by
  unfold impl_in.f
  by_cases h : b ≤ a <;> simp [h]

theorem spec_amt_eq (a : Int) : spec_l01Amt.f a = some (decide (0 ≤ a ∧ a ≤ 1000000000)) := by
  unfold spec_l01Amt.f
  simp only [spec_in_eq, Option.bind_some]
theorem impl_size_eq (a : Int) : impl_isSize.f a = some (decide (0 ≤ a ∧ a ≤ 1000000000)) := by
  unfold impl_isSize.f
  simp only [impl_in_eq, Option.bind_some]

def nearB (a b t : Int) : Bool := decide ((0 ≤ a ∧ a ≤ 1000000000) ∧ (0 ≤ b ∧ b ≤ 1000000000) ∧ (0 ≤ t ∧ t ≤ 1000)) && decide ((if a - b < 0 then -(a - b) else a - b) * 1000 ≤ b * t)
theorem mul_in (b t : Int) (h1 : 0 ≤ b ∧ b ≤ 1000000000) (h2 : 0 ≤ t ∧ t ≤ 1000000) : 0 ≤ b * t ∧ b * t ≤ 1000000000000000 :=
  ⟨Int.mul_nonneg h1.1 h2.1, Int.le_trans (Int.mul_le_mul h1.2 h2.2 h2.1 (by omega)) (by omega)⟩
theorem spec_NearBy_eq (a b t : Int) (k : Nat) (hk : 0 < k) : spec_NearBy.f k a b t = some (nearB a b t) := by
  obtain ⟨k, rfl⟩ : ∃ m, k = m + 1 := ⟨k - 1, by omega⟩
  unfold spec_NearBy.f nearB
  simp only [spec_amt_eq, spec_in_eq, Option.bind_some, decide_eq_true_eq, spec_NearBy.j0]
  by_cases h1 : 0 ≤ a ∧ a ≤ 1000000000
  · by_cases h2 : 0 ≤ b ∧ b ≤ 1000000000
    · by_cases h3 : 0 ≤ t ∧ t ≤ 1000
      · have hm := mul_in b t h2 (by omega)
        rw [Base.wrap_in (x := a - b) (by omega) (by omega), Base.wrap_in (x := b * t) (by omega) (by omega)]
        by_cases h4 : a - b < 0
        · rw [Base.wrap_in (x := -(a - b)) (by omega) (by omega), Base.wrap_in (x := -(a - b) * 1000) (by omega) (by omega)]
          simp [h1, h2, h3, h4]
        · rw [Base.wrap_in (x := (a - b) * 1000) (by omega) (by omega)]
          simp [h1, h2, h3, h4]
      · simp [h1, h2, h3]
    · simp [h1, h2]
  · simp [h1]
theorem impl_NearBy_eq (a b t : Int) : impl_NearBy.f a b t = some (nearB a b t) := by
  unfold impl_NearBy.f nearB
  simp only [impl_size_eq, impl_in_eq, Option.bind_some, decide_eq_true_eq]
  by_cases h1 : 0 ≤ a ∧ a ≤ 1000000000
  · by_cases h2 : 0 ≤ b ∧ b ≤ 1000000000
    · by_cases h3 : 0 ≤ t ∧ t ≤ 1000
      · have hm := mul_in b t h2 (by omega)
        have hx : mx (a - b) (b - a) = if a - b < 0 then -(a - b) else a - b := by
          unfold mx
          split <;> split <;> omega
        rw [Base.wrap_in (x := a - b) (by omega) (by omega), Base.wrap_in (x := b - a) (by omega) (by omega), Base.wrap_in (x := b * t) (by omega) (by omega), hx]
        rw [Base.wrap_in (x := (if a - b < 0 then -(a - b) else a - b) * 1000) (by split <;> omega) (by split <;> omega)]
        simp [h1, h2, h3]
      · simp [h1, h2, h3]
    · simp [h1, h2]
  · simp [h1]

theorem cmp_eq (a b : Int) : cmp_Compare_int.f a b = some (if a < b then -1 else if a > b then 1 else 0) := by
  unfold cmp_Compare_int.f cmp_isNaN_int.f
  by_cases h1 : a < b <;> by_cases h2 : a > b <;> simp [h1, h2]
def signI (s n t : Int) : Int := if (0 ≤ s ∧ s ≤ 1000000000) ∧ (1 ≤ n ∧ n ≤ 1000) ∧ (1 ≤ t ∧ t ≤ 1000000) then (if s < wrap64 (n * t) then -1 else if s > wrap64 (n * t) then 1 else 0) else 2
theorem impl_RatioSign_eq (s n t : Int) : impl_RatioSign.f s n t = some (signI s n t) := by
  unfold impl_RatioSign.f signI
  simp only [impl_size_eq, impl_in_eq, cmp_eq, Option.bind_some, decide_eq_true_eq]
  by_cases h1 : 0 ≤ s ∧ s ≤ 1000000000 <;> by_cases h2 : 1 ≤ n ∧ n ≤ 1000 <;> by_cases h3 : 1 ≤ t ∧ t ≤ 1000000 <;> simp [h1, h2, h3]
theorem spec_RatioSign_eq (s n t : Int) (k : Nat) (hk : 0 < k) : spec_RatioSign.f k s n t = some (signI s n t) := by
  obtain ⟨k, rfl⟩ : ∃ m, k = m + 1 := ⟨k - 1, by omega⟩
  unfold spec_RatioSign.f signI
  simp only [spec_amt_eq, spec_in_eq, Option.bind_some, decide_eq_true_eq, spec_RatioSign.j0]
  by_cases h1 : 0 ≤ s ∧ s ≤ 1000000000 <;> by_cases h2 : 1 ≤ n ∧ n ≤ 1000 <;> by_cases h3 : 1 ≤ t ∧ t ≤ 1000000 <;> by_cases h4 : s < wrap64 (n * t) <;> by_cases h5 : s > wrap64 (n * t) <;> simp [h1, h2, h3, h4, h5]

theorem spec_NameOk_l0 (s : ByteArray) (hs : s.size ≤ maxLen) (d : Nat) : ∀ (k : Nat) (i : Int), 0 ≤ i → (s.size : Int) - i = d → d < k → spec_NameOk.l0 k s i = some (Base.nameRest s d i) := by
  unfold maxLen at hs
  induction d with
  | zero =>
    intro k i h0 hd hk
    obtain ⟨k, rfl⟩ : ∃ m, k = m + 1 := ⟨k - 1, by omega⟩
    simp only [spec_NameOk.l0]
    rw [if_neg (by omega)]
    rfl
  | succ d ih =>
    intro k i h0 hd hk
    obtain ⟨k, rfl⟩ : ∃ m, k = m + 1 := ⟨k - 1, by omega⟩
    have hr := ih k (i + 1) (by omega) (by omega) (by omega)
    simp only [spec_NameOk.l0]
    rw [if_pos (by omega), if_pos h0, Base.wrap_in (by omega) (by omega), hr]
    simp only [Base.nameRest, Base.chr]
    by_cases h1 : bt s i < 97 <;> by_cases h2 : bt s i < 48 <;> by_cases h3 : bt s i > 57 <;> by_cases h4 : bt s i > 122 <;> simp [h1, h2, h3, h4]
theorem spec_NameOk_eq (s : ByteArray) (hs : s.size ≤ maxLen) (k : Nat) (hk : s.size < k) : spec_NameOk.f k s = some (Base.nameB s) := by
  unfold spec_NameOk.f Base.nameB
  rw [spec_in_eq, spec_NameOk_l0 s hs s.size k 0 (by omega) (by omega) hk]
  by_cases h : 1 ≤ (s.size : Int) ∧ (s.size : Int) ≤ 12 <;> simp [h]
theorem impl_NameOk_l0 (s : ByteArray) (hs : s.size ≤ maxLen) (d : Nat) : ∀ (k : Nat) (i : Int), 0 ≤ i → (s.size : Int) - i = d → d < k → impl_NameOk.l0 k s (s.size : Int) i = some (Base.nameRest s d i && decide (1 ≤ (s.size : Int) ∧ (s.size : Int) ≤ 12)) := by
  unfold maxLen at hs
  induction d with
  | zero =>
    intro k i h0 hd hk
    obtain ⟨k, rfl⟩ : ∃ m, k = m + 1 := ⟨k - 1, by omega⟩
    simp only [impl_NameOk.l0]
    rw [if_neg (by omega), impl_in_eq]
    simp [Base.nameRest]
  | succ d ih =>
    intro k i h0 hd hk
    obtain ⟨k, rfl⟩ : ∃ m, k = m + 1 := ⟨k - 1, by omega⟩
    have hr := ih k (i + 1) (by omega) (by omega) (by omega)
    simp only [impl_NameOk.l0]
    rw [if_pos (by omega), if_pos h0, if_pos (by omega), Base.wrap_in (by omega) (by omega), hr]
    simp only [Base.nameRest, Base.chr]
    by_cases h1 : bt s i < 97 <;> by_cases h2 : bt s i < 48 <;> by_cases h3 : bt s i > 57 <;> by_cases h4 : bt s i > 122 <;> simp [h1, h2, h3, h4]
theorem impl_NameOk_eq (s : ByteArray) (hs : s.size ≤ maxLen) (k : Nat) (hk : s.size < k) : impl_NameOk.f k s = some (Base.nameB s) := by
  unfold impl_NameOk.f Base.nameB
  exact impl_NameOk_l0 s hs s.size k 0 (by omega) (by omega) hk

theorem spec_GoalOk_eq (s : ByteArray) (t l : Int) (hs : s.size ≤ maxLen) (k : Nat) (hk : s.size < k) : spec_GoalOk.f k s t l = some (Base.goalB s t l) := by
  unfold spec_GoalOk.f Base.goalB
  rw [spec_NameOk_eq s hs k hk, spec_in_eq, spec_in_eq]
  by_cases h1 : Base.nameB s = true <;> by_cases h2 : 1 ≤ t ∧ t ≤ 1000000 <;> simp [h1, h2]
theorem impl_GoalOk_eq (s : ByteArray) (t l : Int) (hs : s.size ≤ maxLen) (k : Nat) (hk : s.size < k) : impl_GoalOk.f k s t l = some (Base.goalB s t l) := by
  unfold impl_GoalOk.f Base.goalB
  rw [impl_NameOk_eq s hs k hk, impl_in_eq, impl_in_eq]
  by_cases h1 : Base.nameB s = true <;> by_cases h2 : 1 ≤ t ∧ t ≤ 1000000 <;> simp [h1, h2]

def bandB (sum n : Int) (s : ByteArray) (t l : Int) : Bool := Base.goalB s t l && decide (signI sum n t ≠ 2) && nearB sum (wrap64 (n * t)) l
theorem spec_InBand_eq (sum n : Int) (s : ByteArray) (t l : Int) (hs : s.size ≤ maxLen) (k : Nat) (hk : s.size < k) : spec_InBand.f k sum n s t l = some (bandB sum n s t l) := by
  unfold spec_InBand.f bandB
  simp only [spec_RatioSign_eq sum n t k (by omega), spec_GoalOk_eq s t l hs k hk, spec_NearBy_eq _ _ _ k (by omega), Option.bind_some]
  by_cases h1 : signI sum n t = 2 <;> by_cases h2 : Base.goalB s t l = true <;> simp [h1, h2]
theorem impl_InBand_eq (sum n : Int) (s : ByteArray) (t l : Int) (hs : s.size ≤ maxLen) (k : Nat) (hk : s.size < k) : impl_InBand.f k sum n s t l = some (bandB sum n s t l) := by
  unfold impl_InBand.f bandB
  simp only [impl_RatioSign_eq, impl_GoalOk_eq s t l hs k hk, impl_NearBy_eq, Option.bind_some]
  by_cases h1 : signI sum n t = 2 <;> by_cases h2 : Base.goalB s t l = true <;> simp [h1, h2]

theorem FnExactInBand (sum n : Int) (s : ByteArray) (t l : Int) (_ : (Lit.int .i64 sum).wf = true) (_ : (Lit.int .i64 n).wf = true) (hs : s.size ≤ maxLen) (_ : (Lit.int .i64 t).wf = true) (_ : (Lit.int .i64 l).wf = true) : ∃ k, laws_FnExactInBand.f k sum n s t l = some true := by
  refine ⟨s.size + 1, ?_⟩
  unfold laws_FnExactInBand.f laws_szGoal.f laws_toGoal.f
  simp only [Option.bind_some, spec_InBand_eq sum n s t l hs (s.size + 1) (by omega), impl_InBand_eq sum n s t l hs (s.size + 1) (by omega)]
  by_cases h : wrap64 (1048576 - (s.size : Int)) < 0 <;> simp [h]

end Go.Proofs.Yteghfiladifjpaa.Pure
