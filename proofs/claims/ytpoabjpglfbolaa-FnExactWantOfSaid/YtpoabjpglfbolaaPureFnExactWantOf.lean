/- The pure half of FnExactWantOf: the printed Lean functions of the program and of the reference agree, so the law's function answers true. Conditions: those of the statement, spelled at the theorem. -/
import Derived.Test.YtpoabjpglfbolaaPFnExactWantOfx
import Derived.Test.YtpoabjpglfbolaaBase
namespace Go.Proofs.Ytpoabjpglfbolaa.Pure
open Go.RowKit Go.Proofs.Ytpoabjpglfbolaa.PFnExactWantOf Go.Proofs.YtpoabjpglfbolaaW.PrintWords Go.Proofs.YtpoabjpglfbolaaW.PrintLast
set_option linter.unusedSimpArgs false
set_option linter.unusedVariables false

theorem spec_in_eq (a b c : Int) : spec_l01In.f a b c = some (decide (b ≤ a ∧ a ≤ c)) := by
  unfold spec_l01In.f
  by_cases h : b ≤ a <;> simp [h]
theorem impl_in_eq (a b c : Int) : impl_in.f a b c = some (decide (b ≤ a ∧ a ≤ c)) := by
  unfold impl_in.f
  by_cases h : b ≤ a <;> simp [h]

theorem spec_amt_eq (a : Int) : spec_l01Amt.f a = some (decide (0 ≤ a ∧ a ≤ 1000000000)) := by
  unfold spec_l01Amt.f
  simp only [spec_in_eq, Option.bind_some]
theorem impl_size_eq (a : Int) : impl_isSize.f a = some (decide (0 ≤ a ∧ a ≤ 1000000000)) := by
  unfold impl_isSize.f
  simp only [impl_in_eq, Option.bind_some]

def usableB (r u m s : Int) : Bool := decide (1 ≤ r ∧ r ≤ 12) && (decide (0 ≤ u ∧ u ≤ 12) && (decide (0 ≤ m ∧ m ≤ 12) && decide (0 ≤ s ∧ s ≤ 1000000000)))
theorem usable_of {r u m s : Int} (h : usableB r u m s = true) : (1 ≤ r ∧ r ≤ 12) ∧ (0 ≤ u ∧ u ≤ 12) ∧ (0 ≤ m ∧ m ≤ 12) ∧ (0 ≤ s ∧ s ≤ 1000000000) := by
  simp only [usableB, Bool.and_eq_true, decide_eq_true_eq] at h
  exact h
theorem spec_usable_eq (r u m s : Int) : spec_l05Usable.f r u m s = some (usableB r u m s) := by
  unfold spec_l05Usable.f usableB
  simp only [spec_in_eq, spec_amt_eq, Option.bind_some]
  by_cases h1 : 1 ≤ r ∧ r ≤ 12 <;> by_cases h2 : 0 ≤ u ∧ u ≤ 12 <;> by_cases h3 : 0 ≤ m ∧ m ≤ 12 <;> simp [h1, h2, h3]
theorem impl_usable_eq (r u m s : Int) : impl_Tally_usable.f r u m s = some (usableB r u m s) := by
  unfold impl_Tally_usable.f usableB
  simp only [impl_in_eq, impl_size_eq, Option.bind_some]
  by_cases h1 : 1 ≤ r ∧ r ≤ 12 <;> by_cases h2 : 0 ≤ u ∧ u ≤ 12 <;> by_cases h3 : 0 ≤ m ∧ m ≤ 12 <;> simp [h1, h2, h3]
theorem goal_of {nm : ByteArray} {t l : Int} (h : Base.goalB nm t l = true) : (1 ≤ t ∧ t ≤ 1000000) ∧ (0 ≤ l ∧ l ≤ 1000) := by
  simp only [Base.goalB, Bool.and_eq_true, decide_eq_true_eq] at h
  exact ⟨h.1.2, h.2⟩

theorem cmp_eq (a b : Int) : cmp_Compare_int.f a b = some (if a < b then -1 else if a > b then 1 else 0) := by
  unfold cmp_Compare_int.f cmp_isNaN_int.f
  by_cases h1 : a < b <;> by_cases h2 : a > b <;> simp [h1, h2]
def signI (s n t : Int) : Int := if (0 ≤ s ∧ s ≤ 1000000000) ∧ (1 ≤ n ∧ n ≤ 1000) ∧ (1 ≤ t ∧ t ≤ 1000000) then (if s < wrap64 (n * t) then -1 else if s > wrap64 (n * t) then 1 else 0) else 2
theorem impl_RatioSign_eq (s n t : Int) : impl_RatioSign.f s n t = some (signI s n t) := by
  unfold impl_RatioSign.f signI
  simp only [impl_size_eq, impl_in_eq, cmp_eq, Option.bind_some, decide_eq_true_eq]
  by_cases h1 : 0 ≤ s ∧ s ≤ 1000000000 <;> by_cases h2 : 1 ≤ n ∧ n ≤ 1000 <;> by_cases h3 : 1 ≤ t ∧ t ≤ 1000000 <;> simp [h1, h2, h3]
theorem spec_RatioSign_eq (s n t : Int) (k : Nat) (hk : 0 < k) : spec_RatioSign.f k s n t = some (signI s n t) := by
  obtain ⟨k, rfl⟩ : ∃ m, k = m + 1 := ⟨k - 1, by omega⟩
  unfold spec_RatioSign.f signI
  simp only [spec_amt_eq, spec_in_eq, Option.bind_some, decide_eq_true_eq, spec_RatioSign.j0]
  by_cases h1 : 0 ≤ s ∧ s ≤ 1000000000 <;> by_cases h2 : 1 ≤ n ∧ n ≤ 1000 <;> by_cases h3 : 1 ≤ t ∧ t ≤ 1000000 <;> by_cases h4 : s < wrap64 (n * t) <;> by_cases h5 : s > wrap64 (n * t) <;> simp [h1, h2, h3, h4, h5]

theorem spec_NameOk_l0 (s : ByteArray) (hs : s.size ≤ maxLen) (d : Nat) : ∀ (k : Nat) (i : Int), 0 ≤ i → (s.size : Int) - i = d → d < k → spec_NameOk.l0 k s i = some (Base.nameRest s d i) := by
  unfold maxLen at hs
  induction d with
  | zero =>
    intro k i h0 hd hk
    obtain ⟨k, rfl⟩ : ∃ m, k = m + 1 := ⟨k - 1, by omega⟩
    simp only [spec_NameOk.l0]
    rw [if_neg (by omega)]
    rfl
  | succ d ih =>
    intro k i h0 hd hk
    obtain ⟨k, rfl⟩ : ∃ m, k = m + 1 := ⟨k - 1, by omega⟩
    have hr := ih k (i + 1) (by omega) (by omega) (by omega)
    simp only [spec_NameOk.l0]
    rw [if_pos (by omega), if_pos h0, Base.wrap_in (by omega) (by omega), hr]
    simp only [Base.nameRest, Base.chr]
    by_cases h1 : bt s i < 97 <;> by_cases h2 : bt s i < 48 <;> by_cases h3 : bt s i > 57 <;> by_cases h4 : bt s i > 122 <;> simp [h1, h2, h3, h4]
theorem spec_NameOk_eq (s : ByteArray) (hs : s.size ≤ maxLen) (k : Nat) (hk : s.size < k) : spec_NameOk.f k s = some (Base.nameB s) := by
  unfold spec_NameOk.f Base.nameB
  rw [spec_in_eq, spec_NameOk_l0 s hs s.size k 0 (by omega) (by omega) hk]
  by_cases h : 1 ≤ (s.size : Int) ∧ (s.size : Int) ≤ 12 <;> simp [h]
theorem impl_NameOk_l0 (s : ByteArray) (hs : s.size ≤ maxLen) (d : Nat) : ∀ (k : Nat) (i : Int), 0 ≤ i → (s.size : Int) - i = d → d < k → impl_NameOk.l0 k s (s.size : Int) i = some (Base.nameRest s d i && decide (1 ≤ (s.size : Int) ∧ (s.size : Int) ≤ 12)) := by
  unfold maxLen at hs
  induction d with
  | zero =>
    intro k i h0 hd hk
    obtain ⟨k, rfl⟩ : ∃ m, k = m + 1 := ⟨k - 1, by omega⟩
    simp only [impl_NameOk.l0]
    rw [if_neg (by omega), impl_in_eq]
    simp [Base.nameRest]
  | succ d ih =>
    intro k i h0 hd hk
    obtain ⟨k, rfl⟩ : ∃ m, k = m + 1 := ⟨k - 1, by omega⟩
    have hr := ih k (i + 1) (by omega) (by omega) (by omega)
    simp only [impl_NameOk.l0]
    rw [if_pos (by omega), if_pos h0, if_pos (by omega), Base.wrap_in (by omega) (by omega), hr]
    simp only [Base.nameRest, Base.chr]
    by_cases h1 : bt s i < 97 <;> by_cases h2 : bt s i < 48 <;> by_cases h3 : bt s i > 57 <;> by_cases h4 : bt s i > 122 <;> simp [h1, h2, h3, h4]
theorem impl_NameOk_eq (s : ByteArray) (hs : s.size ≤ maxLen) (k : Nat) (hk : s.size < k) : impl_NameOk.f k s = some (Base.nameB s) := by
  unfold impl_NameOk.f Base.nameB
  exact impl_NameOk_l0 s hs s.size k 0 (by omega) (by omega) hk

theorem spec_GoalOk_eq (s : ByteArray) (t l : Int) (hs : s.size ≤ maxLen) (k : Nat) (hk : s.size < k) : spec_GoalOk.f k s t l = some (Base.goalB s t l) := by
  unfold spec_GoalOk.f Base.goalB
  rw [spec_NameOk_eq s hs k hk, spec_in_eq, spec_in_eq]
  by_cases h1 : Base.nameB s = true <;> by_cases h2 : 1 ≤ t ∧ t ≤ 1000000 <;> simp [h1, h2]
theorem impl_GoalOk_eq (s : ByteArray) (t l : Int) (hs : s.size ≤ maxLen) (k : Nat) (hk : s.size < k) : impl_GoalOk.f k s t l = some (Base.goalB s t l) := by
  unfold impl_GoalOk.f Base.goalB
  rw [impl_NameOk_eq s hs k hk, impl_in_eq, impl_in_eq]
  by_cases h1 : Base.nameB s = true <;> by_cases h2 : 1 ≤ t ∧ t ≤ 1000000 <;> simp [h1, h2]

theorem mul_in (b t : Int) (h1 : 0 ≤ b ∧ b ≤ 1000000000) (h2 : 0 ≤ t ∧ t ≤ 1000000) : 0 ≤ b * t ∧ b * t ≤ 1000000000000000 :=
  ⟨Int.mul_nonneg h1.1 h2.1, Int.le_trans (Int.mul_le_mul h1.2 h2.2 h2.1 (by omega)) (by omega)⟩

def refillP (r u m s t : Int) : Int × Int := if u + m = 0 then (s, r) else if signI s r t = -1 then (s + m * t, r + m) else if signI s r t = 1 then (s, r + u + m) else (s, r)
def refillV (r u m s : Int) (nm : ByteArray) (t l : Int) : Int × Int := if usableB r u m s = true ∧ Base.goalB nm t l = true then refillP r u m s t else (0, 0)
theorem sign_cases (s n t : Int) (h1 : 0 ≤ s ∧ s ≤ 1000000000) (h2 : 1 ≤ n ∧ n ≤ 1000) (h3 : 1 ≤ t ∧ t ≤ 1000000) : signI s n t = -1 ∨ signI s n t = 0 ∨ signI s n t = 1 := by
  unfold signI
  rw [if_pos ⟨h1, h2, h3⟩]
  split
  · exact .inl rfl
  · split
    · exact .inr (.inr rfl)
    · exact .inr (.inl rfl)
theorem spec_RefillOf_eq (r u m s : Int) (nm : ByteArray) (t l : Int) (hs : nm.size ≤ maxLen) (k : Nat) (hk : nm.size + 1 < k) : spec_RefillOf.f k r u m s nm t l = some (refillV r u m s nm t l) := by
  obtain ⟨k, rfl⟩ : ∃ m, k = m + 1 := ⟨k - 1, by omega⟩
  unfold spec_RefillOf.f refillV
  simp only [spec_usable_eq, spec_GoalOk_eq nm t l hs (k + 1) (by omega), Option.bind_some, spec_RefillOf.j0, spec_RatioSign_eq _ _ _ k (by omega)]
  by_cases h1 : usableB r u m s = true
  · by_cases h2 : Base.goalB nm t l = true
    · obtain ⟨b1, b2, b3, b4⟩ := usable_of h1
      obtain ⟨b5, b6⟩ := goal_of h2
      have hm := mul_in m t (by omega) (by omega)
      rw [Base.wrap_in (x := u + m) (by omega) (by omega), Base.wrap_in (x := m * t) (by omega) (by omega), Base.wrap_in (x := s + m * t) (by omega) (by omega), Base.wrap_in (x := r + m) (by omega) (by omega), Base.wrap_in (x := r + u) (by omega) (by omega), Base.wrap_in (x := r + u + m) (by omega) (by omega)]
      by_cases h3 : u + m = 0 <;> by_cases h4 : signI s r t = -1 <;> by_cases h5 : signI s r t = 1 <;> simp [refillP, h1, h2, h3, h4, h5]
    · simp [h1, h2]
  · simp [h1]
theorem impl_RefillOf_eq (r u m s : Int) (nm : ByteArray) (t l : Int) (hs : nm.size ≤ maxLen) (k : Nat) (hk : nm.size + 1 < k) : impl_RefillOf.f k r u m s nm t l = some (refillV r u m s nm t l) := by
  obtain ⟨k, rfl⟩ : ∃ m, k = m + 1 := ⟨k - 1, by omega⟩
  unfold impl_RefillOf.f refillV
  simp only [impl_usable_eq, impl_GoalOk_eq nm t l hs (k + 1) (by omega), Option.bind_some, impl_RefillOf.j0, impl_RatioSign_eq]
  by_cases h1 : usableB r u m s = true
  · by_cases h2 : Base.goalB nm t l = true
    · obtain ⟨b1, b2, b3, b4⟩ := usable_of h1
      obtain ⟨b5, b6⟩ := goal_of h2
      have hm := mul_in m t (by omega) (by omega)
      obtain ⟨k, rfl⟩ : ∃ m, k = m + 1 := ⟨k - 1, by omega⟩
      simp only [h1, h2, Bool.not_true, if_true, Bool.false_eq_true, if_false, and_self, impl_RefillOf.j1]
      rw [Base.wrap_in (x := m * t) (by omega) (by omega), Base.wrap_in (x := s + m * t) (by omega) (by omega), Base.wrap_in (x := r + m) (by omega) (by omega), Base.wrap_in (x := r + u) (by omega) (by omega), Base.wrap_in (x := r + u + m) (by omega) (by omega)]
      by_cases h6 : u = 0
      · by_cases h7 : m = 0
        · simp [refillP, h6, h7]
        · rcases sign_cases s r t b4 (by omega) b5 with h | h | h <;> simp [refillP, h6, h7, h]
      · rcases sign_cases s r t b4 (by omega) b5 with h | h | h <;> simp [refillP, h6, h, show ¬ u + m = 0 by omega]
    · simp [h1, h2]
  · simp only [h1, impl_RefillOf.j0]
    simp

def nearB (a b t : Int) : Bool := decide ((0 ≤ a ∧ a ≤ 1000000000) ∧ (0 ≤ b ∧ b ≤ 1000000000) ∧ (0 ≤ t ∧ t ≤ 1000)) && decide ((if a - b < 0 then -(a - b) else a - b) * 1000 ≤ b * t)
theorem spec_NearBy_eq (a b t : Int) (k : Nat) (hk : 0 < k) : spec_NearBy.f k a b t = some (nearB a b t) := by
  obtain ⟨k, rfl⟩ : ∃ m, k = m + 1 := ⟨k - 1, by omega⟩
  unfold spec_NearBy.f nearB
  simp only [spec_amt_eq, spec_in_eq, Option.bind_some, decide_eq_true_eq, spec_NearBy.j0]
  by_cases h1 : 0 ≤ a ∧ a ≤ 1000000000
  · by_cases h2 : 0 ≤ b ∧ b ≤ 1000000000
    · by_cases h3 : 0 ≤ t ∧ t ≤ 1000
      · have hm := mul_in b t h2 (by omega)
        rw [Base.wrap_in (x := a - b) (by omega) (by omega), Base.wrap_in (x := b * t) (by omega) (by omega)]
        by_cases h4 : a - b < 0
        · rw [Base.wrap_in (x := -(a - b)) (by omega) (by omega), Base.wrap_in (x := -(a - b) * 1000) (by omega) (by omega)]
          simp [h1, h2, h3, h4]
        · rw [Base.wrap_in (x := (a - b) * 1000) (by omega) (by omega)]
          simp [h1, h2, h3, h4]
      · simp [h1, h2, h3]
    · simp [h1, h2]
  · simp [h1]
theorem impl_NearBy_eq (a b t : Int) : impl_NearBy.f a b t = some (nearB a b t) := by
  unfold impl_NearBy.f nearB
  simp only [impl_size_eq, impl_in_eq, Option.bind_some, decide_eq_true_eq]
  by_cases h1 : 0 ≤ a ∧ a ≤ 1000000000
  · by_cases h2 : 0 ≤ b ∧ b ≤ 1000000000
    · by_cases h3 : 0 ≤ t ∧ t ≤ 1000
      · have hm := mul_in b t h2 (by omega)
        have hx : mx (a - b) (b - a) = if a - b < 0 then -(a - b) else a - b := by
          unfold mx
          split <;> split <;> omega
        rw [Base.wrap_in (x := a - b) (by omega) (by omega), Base.wrap_in (x := b - a) (by omega) (by omega), Base.wrap_in (x := b * t) (by omega) (by omega), hx]
        rw [Base.wrap_in (x := (if a - b < 0 then -(a - b) else a - b) * 1000) (by split <;> omega) (by split <;> omega)]
        simp [h1, h2, h3]
      · simp [h1, h2, h3]
    · simp [h1, h2]
  · simp [h1]

def bandB (sum n : Int) (s : ByteArray) (t l : Int) : Bool := Base.goalB s t l && decide (signI sum n t ≠ 2) && nearB sum (wrap64 (n * t)) l
theorem spec_InBand_eq (sum n : Int) (s : ByteArray) (t l : Int) (hs : s.size ≤ maxLen) (k : Nat) (hk : s.size < k) : spec_InBand.f k sum n s t l = some (bandB sum n s t l) := by
  unfold spec_InBand.f bandB
  simp only [spec_RatioSign_eq sum n t k (by omega), spec_GoalOk_eq s t l hs k hk, spec_NearBy_eq _ _ _ k (by omega), Option.bind_some]
  by_cases h1 : signI sum n t = 2 <;> by_cases h2 : Base.goalB s t l = true <;> simp [h1, h2]
theorem impl_InBand_eq (sum n : Int) (s : ByteArray) (t l : Int) (hs : s.size ≤ maxLen) (k : Nat) (hk : s.size < k) : impl_InBand.f k sum n s t l = some (bandB sum n s t l) := by
  unfold impl_InBand.f bandB
  simp only [impl_RatioSign_eq, impl_GoalOk_eq s t l hs k hk, impl_NearBy_eq, Option.bind_some]
  by_cases h1 : signI sum n t = 2 <;> by_cases h2 : Base.goalB s t l = true <;> simp [h1, h2]

theorem spec_count_eq (a : Int) : spec_l05Count.f a = some (decide (0 ≤ a ∧ a ≤ 1000)) := by
  unfold spec_l05Count.f
  simp only [spec_in_eq, Option.bind_some]
theorem impl_count_eq (a : Int) : impl_isCount.f a = some (decide (0 ≤ a ∧ a ≤ 1000)) := by
  unfold impl_isCount.f
  simp only [impl_in_eq, Option.bind_some]

def ceilI (a b : Int) : Int := if Int.tmod a b > 0 then Int.tdiv a b + 1 else Int.tdiv a b
theorem tdiv_in (a b : Int) (h0 : 0 ≤ a) (h1 : 1 ≤ b) : 0 ≤ Int.tdiv a b ∧ Int.tdiv a b ≤ a := by
  rw [Int.tdiv_eq_ediv_of_nonneg h0]
  exact ⟨Int.ediv_nonneg h0 (by omega), Int.ediv_le_self _ h0⟩
theorem spec_CeilDiv_eq (a b : Int) (h0 : 0 ≤ a) (h2 : a ≤ 9000000000000) (h1 : 1 ≤ b) : spec_CeilDiv.f a b = some (ceilI a b) := by
  have := tdiv_in a b h0 h1
  unfold spec_CeilDiv.f ceilI
  rw [if_neg (by omega), if_neg (by omega), Base.wrap_in (x := Int.tdiv a b) (by omega) (by omega), Base.wrap_in (x := Int.tdiv a b + 1) (by omega) (by omega)]
  split <;> rfl
theorem impl_CeilDiv_eq (a b : Int) (h0 : 0 ≤ a) (h2 : a ≤ 9000000000000) (h1 : 1 ≤ b) : impl_CeilDiv.f a b = some (ceilI a b) := by
  have := tdiv_in a b h0 h1
  unfold impl_CeilDiv.f ceilI
  rw [if_neg (by omega), if_neg (by omega), Base.wrap_in (x := Int.tdiv a b) (by omega) (by omega), Base.wrap_in (x := Int.tdiv a b + 1) (by omega) (by omega)]
  split <;> rfl
def wantX (c x sg : Int) : Int := if sg = 1 ∧ x < c ∨ sg = -1 ∧ x > c then c else x
def wantI (c r u m s : Int) (nm : ByteArray) (t l : Int) : Int :=
  if c = 0 ∨ bandB s r nm t l = true ∨ bandB (refillP r u m s t).1 (refillP r u m s t).2 nm t l = true ∨ signI s r t ≠ signI (refillP r u m s t).1 (refillP r u m s t).2 t then c
  else wantX c (mn (ceilI (refillP r u m s t).1 t) 1000) (signI (refillP r u m s t).1 (refillP r u m s t).2 t)
def wantV (c r u m s : Int) (nm : ByteArray) (t l : Int) : Int :=
  if (0 ≤ c ∧ c ≤ 1000) ∧ usableB r u m s = true ∧ Base.goalB nm t l = true then wantI c r u m s nm t l else -1
theorem refill_in (r u m s t : Int) (b1 : 1 ≤ r ∧ r ≤ 12) (b2 : 0 ≤ u ∧ u ≤ 12) (b3 : 0 ≤ m ∧ m ≤ 12) (b4 : 0 ≤ s ∧ s ≤ 1000000000) (b5 : 1 ≤ t ∧ t ≤ 1000000) :
    (0 ≤ (refillP r u m s t).1 ∧ (refillP r u m s t).1 ≤ 9000000000000) ∧ 1 ≤ (refillP r u m s t).2 ∧ (refillP r u m s t).2 ≤ 36 := by
  have hm := mul_in m t (by omega) (by omega)
  have hm2 : m * t ≤ 12 * 1000000 := Int.mul_le_mul b3.2 b5.2 (by omega) (by omega)
  unfold refillP
  repeat' split
  all_goals (simp only; omega)
theorem spec_WantOf_eq (c r u m s : Int) (nm : ByteArray) (t l : Int) (hs : nm.size ≤ maxLen) (k : Nat) (hk : nm.size + 3 < k) : spec_WantOf.f k c r u m s nm t l = some (wantV c r u m s nm t l) := by
  obtain ⟨k, rfl⟩ : ∃ m, k = m + 1 := ⟨k - 1, by omega⟩
  obtain ⟨k, rfl⟩ : ∃ m, k = m + 1 := ⟨k - 1, by omega⟩
  unfold spec_WantOf.f wantV
  simp only [spec_count_eq, spec_usable_eq, spec_GoalOk_eq nm t l hs (k + 2) (by omega), Option.bind_some, spec_WantOf.j0]
  by_cases h0 : 0 ≤ c ∧ c ≤ 1000
  · by_cases h1 : usableB r u m s = true
    · by_cases h2 : Base.goalB nm t l = true
      · obtain ⟨b1, b2, b3, b4⟩ := usable_of h1
        obtain ⟨b5, b6⟩ := goal_of h2
        obtain ⟨c1, c2, c3⟩ := refill_in r u m s t b1 b2 b3 b4 b5
        have hR : refillV r u m s nm t l = refillP r u m s t := by simp [refillV, h1, h2]
        simp only [decide_eq_true h0, h1, h2, Bool.not_true, if_true, Bool.false_eq_true, if_false, spec_RefillOf_eq r u m s nm t l hs (k + 1) (by omega), hR, Option.bind_some, spec_RatioSign_eq _ _ _ (k + 1) (by omega), spec_InBand_eq _ _ _ _ _ hs (k + 1) (by omega), spec_WantOf.j1, spec_CeilDiv_eq _ t c1.1 c1.2 b5.1, h0, and_self, wantI]
        generalize (refillP r u m s t).1 = S at *
        generalize (refillP r u m s t).2 = n at *
        by_cases g0 : c = 0
        · simp [g0]
        · by_cases g1 : bandB s r nm t l = true
          · simp [g0, g1]
          · by_cases g2 : bandB S n nm t l = true
            · simp [g0, g1, g2]
            · by_cases g3 : signI s r t = signI S n t
              · simp only [g0, g1, g2, g3, if_false, bne_self_eq_false, Bool.false_eq_true, ne_eq, not_true_eq_false, or_self, wantX]
                generalize ceilI S t = x
                generalize signI S n t = sg
                by_cases g4 : x > 1000
                · rw [if_pos g4, show mn x 1000 = 1000 by unfold mn; omega]
                  by_cases g5 : sg = 1
                  · subst g5
                    by_cases g6 : 1000 < c <;> simp [g6]
                  · by_cases g6 : sg = -1
                    · subst g6
                      by_cases g7 : 1000 > c <;> simp [g7]
                    · simp [g5, g6]
                · rw [if_neg g4, show mn x 1000 = x by unfold mn; omega]
                  by_cases g5 : sg = 1
                  · subst g5
                    by_cases g6 : x < c <;> simp [g6]
                  · by_cases g6 : sg = -1
                    · subst g6
                      by_cases g7 : x > c <;> simp [g7]
                    · simp [g5, g6]
              · have g3' : (signI s r t != signI S n t) = true := by simpa using g3
                simp [g0, g1, g2, g3, g3']
      · simp [h0, h1, h2]
    · simp [h0, h1]
  · simp [h0]
theorem impl_WantOf_eq (c r u m s : Int) (nm : ByteArray) (t l : Int) (hs : nm.size ≤ maxLen) (k : Nat) (hk : nm.size + 3 < k) : impl_WantOf.f k c r u m s nm t l = some (wantV c r u m s nm t l) := by
  obtain ⟨k, rfl⟩ : ∃ m, k = m + 1 := ⟨k - 1, by omega⟩
  obtain ⟨k, rfl⟩ : ∃ m, k = m + 1 := ⟨k - 1, by omega⟩
  unfold impl_WantOf.f wantV
  simp only [impl_count_eq, impl_usable_eq, impl_GoalOk_eq nm t l hs (k + 2) (by omega), Option.bind_some, impl_WantOf.j0]
  by_cases h0 : 0 ≤ c ∧ c ≤ 1000
  · by_cases h1 : usableB r u m s = true
    · by_cases h2 : Base.goalB nm t l = true
      · obtain ⟨b1, b2, b3, b4⟩ := usable_of h1
        obtain ⟨b5, b6⟩ := goal_of h2
        obtain ⟨c1, c2, c3⟩ := refill_in r u m s t b1 b2 b3 b4 b5
        have hR : refillV r u m s nm t l = refillP r u m s t := by simp [refillV, h1, h2]
        simp only [decide_eq_true h0, h1, h2, Bool.not_true, if_true, Bool.false_eq_true, if_false, impl_RefillOf_eq r u m s nm t l hs (k + 1) (by omega), hR, Option.bind_some, impl_RatioSign_eq, impl_InBand_eq _ _ _ _ _ hs (k + 1) (by omega), impl_WantOf.j1, impl_CeilDiv_eq _ t c1.1 c1.2 b5.1, h0, and_self, wantI]
        generalize (refillP r u m s t).1 = S at *
        generalize (refillP r u m s t).2 = n at *
        by_cases g0 : c = 0
        · simp [g0]
        · by_cases g1 : bandB s r nm t l = true
          · simp [g0, g1]
          · by_cases g2 : bandB S n nm t l = true
            · simp [g0, g1, g2]
            · by_cases g3 : signI s r t = signI S n t
              · simp only [g0, g1, g2, g3, if_false, bne_self_eq_false, Bool.false_eq_true, ne_eq, not_true_eq_false, or_self, wantX]
                generalize mn (ceilI S t) 1000 = x
                generalize signI S n t = sg
                by_cases g5 : sg = 1
                · subst g5
                  by_cases g6 : x < c <;> simp [g6]
                · by_cases g6 : sg = -1
                  · subst g6
                    by_cases g7 : x > c <;> simp [g7]
                  · simp [g5, g6]
              · have g3' : (signI s r t != signI S n t) = true := by simpa using g3
                simp [g0, g1, g2, g3, g3']
      · simp [h0, h1, h2]
    · simp [h0, h1]
  · simp [h0]

theorem FnExactWantOf (c r u m s : Int) (nm : ByteArray) (t l : Int) (_ : (Lit.int .i64 c).wf = true) (_ : (Lit.int .i64 r).wf = true) (_ : (Lit.int .i64 u).wf = true) (_ : (Lit.int .i64 m).wf = true) (_ : (Lit.int .i64 s).wf = true) (hs : nm.size ≤ maxLen) (_ : (Lit.int .i64 t).wf = true) (_ : (Lit.int .i64 l).wf = true) : ∃ k, laws_FnExactWantOf.f k c r u m s nm t l = some true := by
  refine ⟨nm.size + 4, ?_⟩
  unfold laws_FnExactWantOf.f laws_szGoal.f laws_toGoal.f laws_toTally.f
  simp only [Option.bind_some, spec_WantOf_eq c r u m s nm t l hs (nm.size + 4) (by omega), impl_WantOf_eq c r u m s nm t l hs (nm.size + 4) (by omega)]
  by_cases h : wrap64 (1048576 - (nm.size : Int)) < 0 <;> simp [h]

end Go.Proofs.Ytpoabjpglfbolaa.Pure
