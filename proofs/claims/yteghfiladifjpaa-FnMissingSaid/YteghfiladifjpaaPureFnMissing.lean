/- The pure half of FnMissing: the law's printed Lean function answers true at every list of bytes. Conditions: those of the statement, spelled at the theorem. -/
import Derived.Test.YteghfiladifjpaaOFnMissingx
import Derived.Test.YteghfiladifjpaaBase
namespace Go.Proofs.Yteghfiladifjpaa.Pure
open Go.RowKit Go.Proofs.Yteghfiladifjpaa.PFnMissing Go.Proofs.YteghfiladifjpaaW.PrintWords Go.Proofs.YteghfiladifjpaaW.PrintLast
set_option linter.unusedSimpArgs false
set_option linter.unusedVariables false

theorem bits_255 (n : Int) : bits .and .i64 n 255 = n % 256 := by
  have h255 : (BitVec.ofInt 64 255).toNat = 2 ^ 8 - 1 := by decide
  have key : (BitVec.ofInt 64 n &&& BitVec.ofInt 64 255).toNat = (n % ((2 ^ 64 : Nat) : Int)).toNat % 2 ^ 8 := by
    rw [BitVec.toNat_and, BitVec.toNat_ofInt, h255, Nat.and_two_pow_sub_one_eq_mod]
  show IntKind.i64.wrap ((BitVec.ofInt 64 n &&& BitVec.ofInt 64 255).toNat : Nat) = n % 256
  rw [key, IntKind.wrap_i64]
  omega
theorem byte_ok (b : List Int) (i h : Int) (hb : b.length ≤ 1048576) (h0 : 0 ≤ i) (h1 : i ≤ b.length) : ∃ v i' h', spec_l01Byte.f b i h = some (v, i', h') ∧ (0 ≤ v ∧ v ≤ 255) ∧ 0 ≤ i' ∧ i' ≤ b.length := by
  unfold spec_l01Byte.f
  simp only [bits_255]
  by_cases h2 : i < (b.length : Int)
  · rw [if_pos h2, if_pos h0]
    refine ⟨_, _, _, rfl, ⟨Int.emod_nonneg _ (by omega), ?_⟩, ?_⟩
    · have := Int.emod_lt_of_pos (wrap64 (bits .xor .i64 (wrap64 (wrap64 (h * 6364136223846793005) + 1442695040888963407) / 8589934592) (wrap64 (wrap64 (h * 6364136223846793005) + 1442695040888963407) / 35184372088832) % 256 + wrap64 (rd b i))) (show (0 : Int) < 256 by omega)
      omega
    · rw [Base.wrap_in (x := i + 1) (by omega) (by omega)]
      omega
  · rw [if_neg h2]
    refine ⟨_, _, _, rfl, ⟨Int.emod_nonneg _ (by omega), ?_⟩, h0, h1⟩
    have := Int.emod_lt_of_pos (bits .xor .i64 (wrap64 (wrap64 (h * 6364136223846793005) + 1442695040888963407) / 8589934592) (wrap64 (wrap64 (h * 6364136223846793005) + 1442695040888963407) / 35184372088832)) (show (0 : Int) < 256 by omega)
    omega
theorem tmod_in (a n : Int) (ha : 0 ≤ a) (hn : 0 < n) : 0 ≤ Int.tmod a n ∧ Int.tmod a n < n := by
  rw [Int.tmod_eq_emod_of_nonneg ha]
  exact ⟨Int.emod_nonneg _ (by omega), Int.emod_lt_of_pos _ hn⟩
theorem below_ok (b : List Int) (i h n : Int) (hb : b.length ≤ 1048576) (h0 : 0 ≤ i) (h1 : i ≤ b.length) : ∃ v i' h', spec_l01Below.f b i h n = some (v, i', h') ∧ (0 ≤ v ∧ (0 < n → v < n)) ∧ 0 ≤ i' ∧ i' ≤ b.length := by
  unfold spec_l01Below.f
  by_cases h2 : n ≤ 0
  · rw [if_pos h2]
    exact ⟨0, i, h, rfl, ⟨by omega, fun h => by omega⟩, h0, h1⟩
  · rw [if_neg h2]
    by_cases h3 : n ≤ 256
    · rw [if_pos h3]
      obtain ⟨v, i', h', e, ⟨v0, v1⟩, j0, j1⟩ := byte_ok b i h hb h0 h1
      rw [e]
      simp only [Option.bind_some]
      rw [if_neg (by omega)]
      have := tmod_in v n v0 (by omega)
      exact ⟨_, _, _, rfl, ⟨this.1, fun _ => this.2⟩, j0, j1⟩
    · rw [if_neg h3]
      obtain ⟨x, i', h', e, ⟨v0, v1⟩, j0, j1⟩ := byte_ok b i h hb h0 h1
      rw [e]
      simp only [Option.bind_some]
      obtain ⟨y, i', h', e, ⟨v2, v3⟩, j0, j1⟩ := byte_ok b i' h' hb j0 j1
      rw [e]
      simp only [Option.bind_some]
      obtain ⟨z, i', h', e, ⟨v4, v5⟩, j0, j1⟩ := byte_ok b i' h' hb j0 j1
      rw [e]
      simp only [Option.bind_some]
      rw [if_neg (by omega), Base.wrap_in (x := x * 65536) (by omega) (by omega), Base.wrap_in (x := y * 256) (by omega) (by omega), Base.wrap_in (x := x * 65536 + y * 256) (by omega) (by omega), Base.wrap_in (x := x * 65536 + y * 256 + z) (by omega) (by omega)]
      have := tmod_in (x * 65536 + y * 256 + z) n (by omega) (by omega)
      exact ⟨_, _, _, rfl, ⟨this.1, fun _ => this.2⟩, j0, j1⟩
theorem pick_ok (b : List Int) (i h : Int) (l : List Int) (hl : 0 < l.length) (hb : b.length ≤ 1048576) (h0 : 0 ≤ i) (h1 : i ≤ b.length) : ∃ v i' h', spec_l01PickInt.f b i h l = some (v, i', h') ∧ v ∈ l ∧ 0 ≤ i' ∧ i' ≤ b.length := by
  unfold spec_l01PickInt.f
  obtain ⟨v, i', h', e, ⟨v0, v1⟩, j0, j1⟩ := below_ok b i h (l.length : Int) hb h0 h1
  have v1 := v1 (by omega)
  rw [e]
  simp only [Option.bind_some]
  rw [if_pos v0, if_pos v1]
  refine ⟨_, _, _, rfl, ?_, j0, j1⟩
  exact Base.getD_mem l 0 v.toNat (by omega)
theorem once_ok (b : List Int) (i h n : Int) (hb : b.length ≤ 1048576) (h0 : 0 ≤ i) (h1 : i ≤ b.length) : ∃ (v : Bool) (i' h' : Int), spec_l01Once.f b i h n = some (v, i', h') ∧ 0 ≤ i' ∧ i' ≤ b.length := by
  unfold spec_l01Once.f
  obtain ⟨v, i', h', e, _, j0, j1⟩ := below_ok b i h n hb h0 h1
  rw [e]
  exact ⟨_, _, _, rfl, j0, j1⟩
theorem new_l0 (l : List Int) (hb : l.length ≤ 1048576) (d : Nat) : ∀ (k i : Nat) (x : Int), i + d = l.length → d < k → ∃ h, spec_l01New.l0 k l x (i : Int) = some (l, 0, h) := by
  induction d with
  | zero =>
    intro k i x hd hk
    obtain ⟨k, rfl⟩ : ∃ m, k = m + 1 := ⟨k - 1, by omega⟩
    simp only [spec_l01New.l0]
    rw [if_neg (by omega)]
    exact ⟨_, rfl⟩
  | succ d ih =>
    intro k i x hd hk
    obtain ⟨k, rfl⟩ : ∃ m, k = m + 1 := ⟨k - 1, by omega⟩
    simp only [spec_l01New.l0]
    rw [if_pos (by omega)]
    by_cases h : (i : Int) < 4000
    · rw [if_pos h, if_pos (by omega), Base.wrap_in (x := (i : Int) + 1) (by omega) (by omega), show ((i : Int) + 1) = ((i + 1 : Nat) : Int) by omega]
      exact ih k (i + 1) _ (by omega) (by omega)
    · rw [if_neg h]
      exact ⟨_, rfl⟩
theorem new_ok (l : List Int) (hb : l.length ≤ 1048576) (k : Nat) (hk : l.length < k) : ∃ h, spec_l01New.f k l = some (l, 0, h) := by
  unfold spec_l01New.f
  exact new_l0 l hb l.length k 0 _ (by omega) hk

theorem text_ok (b : List Int) (i h : Int) (l : List ByteArray) (hl : 0 < l.length) (hb : b.length ≤ 1048576) (h0 : 0 ≤ i) (h1 : i ≤ b.length) : ∃ v i' h', spec_l01PickText.f b i h l = some (v, i', h') ∧ v ∈ l ∧ 0 ≤ i' ∧ i' ≤ b.length := by
  unfold spec_l01PickText.f
  obtain ⟨v, i', h', e, ⟨v0, v1⟩, j0, j1⟩ := below_ok b i h (l.length : Int) hb h0 h1
  have v1 := v1 (by omega)
  rw [e]
  simp only [Option.bind_some]
  rw [if_pos v0, if_pos v1]
  refine ⟨_, _, _, rfl, ?_, j0, j1⟩
  exact Base.getD_mem l ByteArray.empty v.toNat (by omega)
theorem size_ok (b : List Int) (i h : Int) (hb : b.length ≤ 1048576) (h0 : 0 ≤ i) (h1 : i ≤ b.length) : ∃ v i' h', spec_l01DrawSize.f b i h = some (v, i', h') ∧ 0 ≤ i' ∧ i' ≤ b.length := by
  unfold spec_l01DrawSize.f
  obtain ⟨a1, i, h, e, _, h0, h1⟩ := below_ok b i h 100 hb h0 h1
  rw [e]
  simp only [Option.bind_some]
  obtain ⟨a2, i, h, e, _, h0, h1⟩ := below_ok b i h 100 hb h0 h1
  rw [e]
  simp only [Option.bind_some]
  obtain ⟨a3, i, h, e, _, h0, h1⟩ := below_ok b i h 16777216 hb h0 h1
  rw [e]
  simp only [Option.bind_some]
  obtain ⟨a4, i, h, e, _, h0, h1⟩ := pick_ok b i h [0, 1, a1, wrap64 (a2 * 1000), a3, 1000000000, 999999999, 1000000001, (-1)] (by simp) hb h0 h1
  rw [e]
  exact ⟨_, _, _, rfl, h0, h1⟩
theorem tally_ok (b : List Int) (i h : Int) (hb : b.length ≤ 1048576) (h0 : 0 ≤ i) (h1 : i ≤ b.length) : ∃ r u m s i' h', spec_l05DrawTally.f b i h = some (r, u, m, s, i', h') ∧ 0 ≤ i' ∧ i' ≤ b.length := by
  unfold spec_l05DrawTally.f
  obtain ⟨a1, i, h, e, _, h0, h1⟩ := below_ok b i h 6 hb h0 h1
  rw [e]
  simp only [Option.bind_some]
  obtain ⟨a2, i, h, e, _, h0, h1⟩ := pick_ok b i h [0, 0, 1, 2] (by simp) hb h0 h1
  rw [e]
  simp only [Option.bind_some]
  obtain ⟨a3, i, h, e, _, h0, h1⟩ := pick_ok b i h [0, 0, 1, 3] (by simp) hb h0 h1
  rw [e]
  simp only [Option.bind_some]
  obtain ⟨a4, i, h, e, _, h0, h1⟩ := below_ok b i h 8000 hb h0 h1
  rw [e]
  simp only [Option.bind_some]
  obtain ⟨q, i, h, e, h0, h1⟩ := once_ok b i h 12 hb h0 h1
  rw [e]
  simp only [Option.bind_some]
  cases q with
  | false =>
    rw [if_neg (by simp)]
    exact ⟨_, _, _, _, _, _, rfl, h0, h1⟩
  | true =>
    rw [if_pos rfl]
    obtain ⟨a5, i, h, e, _, h0, h1⟩ := below_ok b i h 3 hb h0 h1
    rw [e]
    simp only [Option.bind_some]
    by_cases e0 : a5 = 0
    · rw [if_pos e0]
      obtain ⟨a6, i, h, e, _, h0, h1⟩ := pick_ok b i h [0, (-1), 12, 13] (by simp) hb h0 h1
      rw [e]
      exact ⟨_, _, _, _, _, _, rfl, h0, h1⟩
    · rw [if_neg e0]
      by_cases e1 : a5 = 1
      · rw [if_pos e1]
        obtain ⟨a6, i, h, e, _, h0, h1⟩ := pick_ok b i h [(-1), 12, 13] (by simp) hb h0 h1
        rw [e]
        exact ⟨_, _, _, _, _, _, rfl, h0, h1⟩
      · rw [if_neg e1]
        by_cases e2 : a5 = 2
        · rw [if_pos e2]
          obtain ⟨a6, i, h, e, h0, h1⟩ := size_ok b i h hb h0 h1
          rw [e]
          exact ⟨_, _, _, _, _, _, rfl, h0, h1⟩
        · rw [if_neg e2]
          exact ⟨_, _, _, _, _, _, rfl, h0, h1⟩
theorem goal_ok (b : List Int) (i h : Int) (hb : b.length ≤ 1048576) (h0 : 0 ≤ i) (h1 : i ≤ b.length) : ∃ nm t l i' h', spec_l05DrawGoal.f b i h = some (nm, t, l, i', h') ∧ nm.size ≤ 3 ∧ 0 ≤ i' ∧ i' ≤ b.length := by
  unfold spec_l05DrawGoal.f
  obtain ⟨nm, i, h, e, hm, h0, h1⟩ := text_ok b i h [(⟨#[99, 112, 117]⟩ : ByteArray), (⟨#[99, 112, 117]⟩ : ByteArray), (⟨#[114, 112, 115]⟩ : ByteArray)] (by simp) hb h0 h1
  rw [e]
  simp only [Option.bind_some]
  have hsz : nm.size ≤ 3 := by
    simp only [List.mem_cons, List.not_mem_nil, or_false] at hm
    rcases hm with rfl | rfl | rfl <;> decide
  obtain ⟨a1, i, h, e, _, h0, h1⟩ := below_ok b i h 900 hb h0 h1
  rw [e]
  simp only [Option.bind_some]
  obtain ⟨a2, i, h, e, _, h0, h1⟩ := pick_ok b i h [500, 1000, 1000, wrap64 (100 + a1)] (by simp) hb h0 h1
  rw [e]
  simp only [Option.bind_some]
  obtain ⟨a3, i, h, e, _, h0, h1⟩ := pick_ok b i h [0, 100, 100, 50] (by simp) hb h0 h1
  rw [e]
  exact ⟨_, _, _, _, _, rfl, hsz, h0, h1⟩
theorem loose_ok (b : List Int) (i h : Int) (hb : b.length ≤ 1048576) (h0 : 0 ≤ i) (h1 : i ≤ b.length) : ∃ nm t l i' h', spec_l05LooseGoal.f b i h = some (nm, t, l, i', h') ∧ nm.size ≤ 3 ∧ 0 ≤ i' ∧ i' ≤ b.length := by
  unfold spec_l05LooseGoal.f
  obtain ⟨nm, t, l, i, h, e, hsz, h0, h1⟩ := goal_ok b i h hb h0 h1
  rw [e]
  simp only [Option.bind_some]
  obtain ⟨q, i, h, e, h0, h1⟩ := once_ok b i h 10 hb h0 h1
  rw [e]
  simp only [Option.bind_some]
  cases q with
  | false =>
    rw [if_neg (by simp)]
    exact ⟨_, _, _, _, _, rfl, hsz, h0, h1⟩
  | true =>
    rw [if_pos rfl]
    obtain ⟨a5, i, h, e, _, h0, h1⟩ := below_ok b i h 3 hb h0 h1
    rw [e]
    simp only [Option.bind_some]
    by_cases e0 : a5 = 0
    · rw [if_pos e0]
      obtain ⟨n2, i, h, e, hm, h0, h1⟩ := text_ok b i h [(⟨#[]⟩ : ByteArray), (⟨#[67]⟩ : ByteArray)] (by simp) hb h0 h1
      rw [e]
      have hsz2 : n2.size ≤ 3 := by
        simp only [List.mem_cons, List.not_mem_nil, or_false] at hm
        rcases hm with rfl | rfl <;> decide
      exact ⟨_, _, _, _, _, rfl, hsz2, h0, h1⟩
    · rw [if_neg e0]
      by_cases e1 : a5 = 1
      · rw [if_pos e1]
        obtain ⟨a6, i, h, e, _, h0, h1⟩ := pick_ok b i h [0, 1, 1000000, 1000001] (by simp) hb h0 h1
        rw [e]
        exact ⟨_, _, _, _, _, rfl, hsz, h0, h1⟩
      · rw [if_neg e1]
        by_cases e2 : a5 = 2
        · rw [if_pos e2]
          obtain ⟨a6, i, h, e, _, h0, h1⟩ := pick_ok b i h [(-1), 1000, 1001] (by simp) hb h0 h1
          rw [e]
          exact ⟨_, _, _, _, _, rfl, hsz, h0, h1⟩
        · rw [if_neg e2]
          exact ⟨_, _, _, _, _, rfl, hsz, h0, h1⟩
theorem drawWant_ok (l : List Int) (hb : l.length ≤ 1048576) (k : Nat) (hk : l.length < k) : ∃ c r u m s nm t tol, spec_DrawWantOf.f k l = some (c, r, u, m, s, nm, t, tol) ∧ nm.size ≤ 3 := by
  unfold spec_DrawWantOf.f
  obtain ⟨h, e⟩ := new_ok l hb k (by omega)
  rw [e]
  simp only [Option.bind_some]
  obtain ⟨r, u, m, s, i, h, e, h0, h1⟩ := tally_ok l 0 h hb (by omega) (by omega)
  rw [e]
  simp only [Option.bind_some]
  obtain ⟨a1, i, h, e, _, h0, h1⟩ := below_ok l i h 12 hb h0 h1
  rw [e]
  simp only [Option.bind_some]
  obtain ⟨a2, i, h, e, _, h0, h1⟩ := below_ok l i h 12 hb h0 h1
  rw [e]
  simp only [Option.bind_some]
  obtain ⟨a3, i, h, e, _, h0, h1⟩ := pick_ok l i h [wrap64 ((wrap64 (r + u)) + m), a1, a2, 0, 1000, 1001, (-1)] (by simp) hb h0 h1
  rw [e]
  simp only [Option.bind_some]
  obtain ⟨nm, t, tol, i, h, e, hsz, h0, h1⟩ := loose_ok l i h hb h0 h1
  rw [e]
  exact ⟨_, _, _, _, _, _, _, _, rfl, hsz⟩

theorem spec_in_eq (a b c : Int) : spec_l01In.f a b c = some (decide (b ≤ a ∧ a ≤ c)) := by
  unfold spec_l01In.f
  by_cases h : b ≤ a <;> simp [h]
theorem impl_in_eq (a b c : Int) : impl_in.f a b c = some (decide (b ≤ a ∧ a ≤ c)) := by
  unfold impl_in.f
  by_cases h : b ≤ a <;> simp [h]

theorem spec_amt_eq (a : Int) : spec_l01Amt.f a = some (decide (0 ≤ a ∧ a ≤ 1000000000)) := by
  unfold spec_l01Amt.f
  simp only [spec_in_eq, Option.bind_some]
theorem impl_size_eq (a : Int) : impl_isSize.f a = some (decide (0 ≤ a ∧ a ≤ 1000000000)) := by
  unfold impl_isSize.f
  simp only [impl_in_eq, Option.bind_some]

def usableB (r u m s : Int) : Bool := decide (1 ≤ r ∧ r ≤ 12) && (decide (0 ≤ u ∧ u ≤ 12) && (decide (0 ≤ m ∧ m ≤ 12) && decide (0 ≤ s ∧ s ≤ 1000000000)))
theorem usable_of {r u m s : Int} (h : usableB r u m s = true) : (1 ≤ r ∧ r ≤ 12) ∧ (0 ≤ u ∧ u ≤ 12) ∧ (0 ≤ m ∧ m ≤ 12) ∧ (0 ≤ s ∧ s ≤ 1000000000) := by
  simp only [usableB, Bool.and_eq_true, decide_eq_true_eq] at h
  exact h
theorem spec_usable_eq (r u m s : Int) : spec_l05Usable.f r u m s = some (usableB r u m s) := by
  unfold spec_l05Usable.f usableB
  simp only [spec_in_eq, spec_amt_eq, Option.bind_some]
  by_cases h1 : 1 ≤ r ∧ r ≤ 12 <;> by_cases h2 : 0 ≤ u ∧ u ≤ 12 <;> by_cases h3 : 0 ≤ m ∧ m ≤ 12 <;> simp [h1, h2, h3]
theorem impl_usable_eq (r u m s : Int) : impl_Tally_usable.f r u m s = some (usableB r u m s) := by
  unfold impl_Tally_usable.f usableB
  simp only [impl_in_eq, impl_size_eq, Option.bind_some]
  by_cases h1 : 1 ≤ r ∧ r ≤ 12 <;> by_cases h2 : 0 ≤ u ∧ u ≤ 12 <;> by_cases h3 : 0 ≤ m ∧ m ≤ 12 <;> simp [h1, h2, h3]
theorem goal_of {nm : ByteArray} {t l : Int} (h : Base.goalB nm t l = true) : (1 ≤ t ∧ t ≤ 1000000) ∧ (0 ≤ l ∧ l ≤ 1000) := by
  simp only [Base.goalB, Bool.and_eq_true, decide_eq_true_eq] at h
  exact ⟨h.1.2, h.2⟩

theorem cmp_eq (a b : Int) : cmp_Compare_int.f a b = some (if a < b then -1 else if a > b then 1 else 0) := by
  unfold cmp_Compare_int.f cmp_isNaN_int.f
  by_cases h1 : a < b <;> by_cases h2 : a > b <;> simp [h1, h2]
def signI (s n t : Int) : Int := if (0 ≤ s ∧ s ≤ 1000000000) ∧ (1 ≤ n ∧ n ≤ 1000) ∧ (1 ≤ t ∧ t ≤ 1000000) then (if s < wrap64 (n * t) then -1 else if s > wrap64 (n * t) then 1 else 0) else 2
theorem impl_RatioSign_eq (s n t : Int) : impl_RatioSign.f s n t = some (signI s n t) := by
  unfold impl_RatioSign.f signI
  simp only [impl_size_eq, impl_in_eq, cmp_eq, Option.bind_some, decide_eq_true_eq]
  by_cases h1 : 0 ≤ s ∧ s ≤ 1000000000 <;> by_cases h2 : 1 ≤ n ∧ n ≤ 1000 <;> by_cases h3 : 1 ≤ t ∧ t ≤ 1000000 <;> simp [h1, h2, h3]
theorem spec_RatioSign_eq (s n t : Int) (k : Nat) (hk : 0 < k) : spec_RatioSign.f k s n t = some (signI s n t) := by
  obtain ⟨k, rfl⟩ : ∃ m, k = m + 1 := ⟨k - 1, by omega⟩
  unfold spec_RatioSign.f signI
  simp only [spec_amt_eq, spec_in_eq, Option.bind_some, decide_eq_true_eq, spec_RatioSign.j0]
  by_cases h1 : 0 ≤ s ∧ s ≤ 1000000000 <;> by_cases h2 : 1 ≤ n ∧ n ≤ 1000 <;> by_cases h3 : 1 ≤ t ∧ t ≤ 1000000 <;> by_cases h4 : s < wrap64 (n * t) <;> by_cases h5 : s > wrap64 (n * t) <;> simp [h1, h2, h3, h4, h5]

theorem spec_NameOk_l0 (s : ByteArray) (hs : s.size ≤ maxLen) (d : Nat) : ∀ (k : Nat) (i : Int), 0 ≤ i → (s.size : Int) - i = d → d < k → spec_NameOk.l0 k s i = some (Base.nameRest s d i) := by
  unfold maxLen at hs
  induction d with
  | zero =>
    intro k i h0 hd hk
    obtain ⟨k, rfl⟩ : ∃ m, k = m + 1 := ⟨k - 1, by omega⟩
    simp only [spec_NameOk.l0]
    rw [if_neg (by omega)]
    rfl
  | succ d ih =>
    intro k i h0 hd hk
    obtain ⟨k, rfl⟩ : ∃ m, k = m + 1 := ⟨k - 1, by omega⟩
    have hr := ih k (i + 1) (by omega) (by omega) (by omega)
    simp only [spec_NameOk.l0]
    rw [if_pos (by omega), if_pos h0, Base.wrap_in (by omega) (by omega), hr]
    simp only [Base.nameRest, Base.chr]
    by_cases h1 : bt s i < 97 <;> by_cases h2 : bt s i < 48 <;> by_cases h3 : bt s i > 57 <;> by_cases h4 : bt s i > 122 <;> simp [h1, h2, h3, h4]
theorem spec_NameOk_eq (s : ByteArray) (hs : s.size ≤ maxLen) (k : Nat) (hk : s.size < k) : spec_NameOk.f k s = some (Base.nameB s) := by
  unfold spec_NameOk.f Base.nameB
  rw [spec_in_eq, spec_NameOk_l0 s hs s.size k 0 (by omega) (by omega) hk]
  by_cases h : 1 ≤ (s.size : Int) ∧ (s.size : Int) ≤ 12 <;> simp [h]
theorem impl_NameOk_l0 (s : ByteArray) (hs : s.size ≤ maxLen) (d : Nat) : ∀ (k : Nat) (i : Int), 0 ≤ i → (s.size : Int) - i = d → d < k → impl_NameOk.l0 k s (s.size : Int) i = some (Base.nameRest s d i && decide (1 ≤ (s.size : Int) ∧ (s.size : Int) ≤ 12)) := by
  unfold maxLen at hs
  induction d with
  | zero =>
    intro k i h0 hd hk
    obtain ⟨k, rfl⟩ : ∃ m, k = m + 1 := ⟨k - 1, by omega⟩
    simp only [impl_NameOk.l0]
    rw [if_neg (by omega), impl_in_eq]
    simp [Base.nameRest]
  | succ d ih =>
    intro k i h0 hd hk
    obtain ⟨k, rfl⟩ : ∃ m, k = m + 1 := ⟨k - 1, by omega⟩
    have hr := ih k (i + 1) (by omega) (by omega) (by omega)
    simp only [impl_NameOk.l0]
    rw [if_pos (by omega), if_pos h0, if_pos (by omega), Base.wrap_in (by omega) (by omega), hr]
    simp only [Base.nameRest, Base.chr]
    by_cases h1 : bt s i < 97 <;> by_cases h2 : bt s i < 48 <;> by_cases h3 : bt s i > 57 <;> by_cases h4 : bt s i > 122 <;> simp [h1, h2, h3, h4]
theorem impl_NameOk_eq (s : ByteArray) (hs : s.size ≤ maxLen) (k : Nat) (hk : s.size < k) : impl_NameOk.f k s = some (Base.nameB s) := by
  unfold impl_NameOk.f Base.nameB
  exact impl_NameOk_l0 s hs s.size k 0 (by omega) (by omega) hk

theorem spec_GoalOk_eq (s : ByteArray) (t l : Int) (hs : s.size ≤ maxLen) (k : Nat) (hk : s.size < k) : spec_GoalOk.f k s t l = some (Base.goalB s t l) := by
  unfold spec_GoalOk.f Base.goalB
  rw [spec_NameOk_eq s hs k hk, spec_in_eq, spec_in_eq]
  by_cases h1 : Base.nameB s = true <;> by_cases h2 : 1 ≤ t ∧ t ≤ 1000000 <;> simp [h1, h2]
theorem impl_GoalOk_eq (s : ByteArray) (t l : Int) (hs : s.size ≤ maxLen) (k : Nat) (hk : s.size < k) : impl_GoalOk.f k s t l = some (Base.goalB s t l) := by
  unfold impl_GoalOk.f Base.goalB
  rw [impl_NameOk_eq s hs k hk, impl_in_eq, impl_in_eq]
  by_cases h1 : Base.nameB s = true <;> by_cases h2 : 1 ≤ t ∧ t ≤ 1000000 <;> simp [h1, h2]

theorem mul_in (b t : Int) (h1 : 0 ≤ b ∧ b ≤ 1000000000) (h2 : 0 ≤ t ∧ t ≤ 1000000) : 0 ≤ b * t ∧ b * t ≤ 1000000000000000 :=
  ⟨Int.mul_nonneg h1.1 h2.1, Int.le_trans (Int.mul_le_mul h1.2 h2.2 h2.1 (by omega)) (by omega)⟩

def refillP (r u m s t : Int) : Int × Int := if u + m = 0 then (s, r) else if signI s r t = -1 then (s + m * t, r + m) else if signI s r t = 1 then (s, r + u + m) else (s, r)
def refillV (r u m s : Int) (nm : ByteArray) (t l : Int) : Int × Int := if usableB r u m s = true ∧ Base.goalB nm t l = true then refillP r u m s t else (0, 0)
theorem sign_cases (s n t : Int) (h1 : 0 ≤ s ∧ s ≤ 1000000000) (h2 : 1 ≤ n ∧ n ≤ 1000) (h3 : 1 ≤ t ∧ t ≤ 1000000) : signI s n t = -1 ∨ signI s n t = 0 ∨ signI s n t = 1 := by
  unfold signI
  rw [if_pos ⟨h1, h2, h3⟩]
  split
  · exact .inl rfl
  · split
    · exact .inr (.inr rfl)
    · exact .inr (.inl rfl)
theorem spec_RefillOf_eq (r u m s : Int) (nm : ByteArray) (t l : Int) (hs : nm.size ≤ maxLen) (k : Nat) (hk : nm.size + 1 < k) : spec_RefillOf.f k r u m s nm t l = some (refillV r u m s nm t l) := by
  obtain ⟨k, rfl⟩ : ∃ m, k = m + 1 := ⟨k - 1, by omega⟩
  unfold spec_RefillOf.f refillV
  simp only [spec_usable_eq, spec_GoalOk_eq nm t l hs (k + 1) (by omega), Option.bind_some, spec_RefillOf.j0, spec_RatioSign_eq _ _ _ k (by omega)]
  by_cases h1 : usableB r u m s = true
  · by_cases h2 : Base.goalB nm t l = true
    · obtain ⟨b1, b2, b3, b4⟩ := usable_of h1
      obtain ⟨b5, b6⟩ := goal_of h2
      have hm := mul_in m t (by omega) (by omega)
      rw [Base.wrap_in (x := u + m) (by omega) (by omega), Base.wrap_in (x := m * t) (by omega) (by omega), Base.wrap_in (x := s + m * t) (by omega) (by omega), Base.wrap_in (x := r + m) (by omega) (by omega), Base.wrap_in (x := r + u) (by omega) (by omega), Base.wrap_in (x := r + u + m) (by omega) (by omega)]
      by_cases h3 : u + m = 0 <;> by_cases h4 : signI s r t = -1 <;> by_cases h5 : signI s r t = 1 <;> simp [refillP, h1, h2, h3, h4, h5]
    · simp [h1, h2]
  · simp [h1]
theorem impl_RefillOf_eq (r u m s : Int) (nm : ByteArray) (t l : Int) (hs : nm.size ≤ maxLen) (k : Nat) (hk : nm.size + 1 < k) : impl_RefillOf.f k r u m s nm t l = some (refillV r u m s nm t l) := by
  obtain ⟨k, rfl⟩ : ∃ m, k = m + 1 := ⟨k - 1, by omega⟩
  unfold impl_RefillOf.f refillV
  simp only [impl_usable_eq, impl_GoalOk_eq nm t l hs (k + 1) (by omega), Option.bind_some, impl_RefillOf.j0, impl_RatioSign_eq]
  by_cases h1 : usableB r u m s = true
  · by_cases h2 : Base.goalB nm t l = true
    · obtain ⟨b1, b2, b3, b4⟩ := usable_of h1
      obtain ⟨b5, b6⟩ := goal_of h2
      have hm := mul_in m t (by omega) (by omega)
      obtain ⟨k, rfl⟩ : ∃ m, k = m + 1 := ⟨k - 1, by omega⟩
      simp only [h1, h2, Bool.not_true, if_true, Bool.false_eq_true, if_false, and_self, impl_RefillOf.j1]
      rw [Base.wrap_in (x := m * t) (by omega) (by omega), Base.wrap_in (x := s + m * t) (by omega) (by omega), Base.wrap_in (x := r + m) (by omega) (by omega), Base.wrap_in (x := r + u) (by omega) (by omega), Base.wrap_in (x := r + u + m) (by omega) (by omega)]
      by_cases h6 : u = 0
      · by_cases h7 : m = 0
        · simp [refillP, h6, h7]
        · rcases sign_cases s r t b4 (by omega) b5 with h | h | h <;> simp [refillP, h6, h7, h]
      · rcases sign_cases s r t b4 (by omega) b5 with h | h | h <;> simp [refillP, h6, h, show ¬ u + m = 0 by omega]
    · simp [h1, h2]
  · simp only [h1, impl_RefillOf.j0]
    simp

def nearB (a b t : Int) : Bool := decide ((0 ≤ a ∧ a ≤ 1000000000) ∧ (0 ≤ b ∧ b ≤ 1000000000) ∧ (0 ≤ t ∧ t ≤ 1000)) && decide ((if a - b < 0 then -(a - b) else a - b) * 1000 ≤ b * t)
theorem spec_NearBy_eq (a b t : Int) (k : Nat) (hk : 0 < k) : spec_NearBy.f k a b t = some (nearB a b t) := by
  obtain ⟨k, rfl⟩ : ∃ m, k = m + 1 := ⟨k - 1, by omega⟩
  unfold spec_NearBy.f nearB
  simp only [spec_amt_eq, spec_in_eq, Option.bind_some, decide_eq_true_eq, spec_NearBy.j0]
  by_cases h1 : 0 ≤ a ∧ a ≤ 1000000000
  · by_cases h2 : 0 ≤ b ∧ b ≤ 1000000000
    · by_cases h3 : 0 ≤ t ∧ t ≤ 1000
      · have hm := mul_in b t h2 (by omega)
        rw [Base.wrap_in (x := a - b) (by omega) (by omega), Base.wrap_in (x := b * t) (by omega) (by omega)]
        by_cases h4 : a - b < 0
        · rw [Base.wrap_in (x := -(a - b)) (by omega) (by omega), Base.wrap_in (x := -(a - b) * 1000) (by omega) (by omega)]
          simp [h1, h2, h3, h4]
        · rw [Base.wrap_in (x := (a - b) * 1000) (by omega) (by omega)]
          simp [h1, h2, h3, h4]
      · simp [h1, h2, h3]
    · simp [h1, h2]
  · simp [h1]
theorem impl_NearBy_eq (a b t : Int) : impl_NearBy.f a b t = some (nearB a b t) := by
  unfold impl_NearBy.f nearB
  simp only [impl_size_eq, impl_in_eq, Option.bind_some, decide_eq_true_eq]
  by_cases h1 : 0 ≤ a ∧ a ≤ 1000000000
  · by_cases h2 : 0 ≤ b ∧ b ≤ 1000000000
    · by_cases h3 : 0 ≤ t ∧ t ≤ 1000
      · have hm := mul_in b t h2 (by omega)
        have hx : mx (a - b) (b - a) = if a - b < 0 then -(a - b) else a - b := by
          unfold mx
          split <;> split <;> omega
        rw [Base.wrap_in (x := a - b) (by omega) (by omega), Base.wrap_in (x := b - a) (by omega) (by omega), Base.wrap_in (x := b * t) (by omega) (by omega), hx]
        rw [Base.wrap_in (x := (if a - b < 0 then -(a - b) else a - b) * 1000) (by split <;> omega) (by split <;> omega)]
        simp [h1, h2, h3]
      · simp [h1, h2, h3]
    · simp [h1, h2]
  · simp [h1]

def bandB (sum n : Int) (s : ByteArray) (t l : Int) : Bool := Base.goalB s t l && decide (signI sum n t ≠ 2) && nearB sum (wrap64 (n * t)) l
theorem spec_InBand_eq (sum n : Int) (s : ByteArray) (t l : Int) (hs : s.size ≤ maxLen) (k : Nat) (hk : s.size < k) : spec_InBand.f k sum n s t l = some (bandB sum n s t l) := by
  unfold spec_InBand.f bandB
  simp only [spec_RatioSign_eq sum n t k (by omega), spec_GoalOk_eq s t l hs k hk, spec_NearBy_eq _ _ _ k (by omega), Option.bind_some]
  by_cases h1 : signI sum n t = 2 <;> by_cases h2 : Base.goalB s t l = true <;> simp [h1, h2]
theorem impl_InBand_eq (sum n : Int) (s : ByteArray) (t l : Int) (hs : s.size ≤ maxLen) (k : Nat) (hk : s.size < k) : impl_InBand.f k sum n s t l = some (bandB sum n s t l) := by
  unfold impl_InBand.f bandB
  simp only [impl_RatioSign_eq, impl_GoalOk_eq s t l hs k hk, impl_NearBy_eq, Option.bind_some]
  by_cases h1 : signI sum n t = 2 <;> by_cases h2 : Base.goalB s t l = true <;> simp [h1, h2]

theorem spec_count_eq (a : Int) : spec_l05Count.f a = some (decide (0 ≤ a ∧ a ≤ 1000)) := by
  unfold spec_l05Count.f
  simp only [spec_in_eq, Option.bind_some]
theorem impl_count_eq (a : Int) : impl_isCount.f a = some (decide (0 ≤ a ∧ a ≤ 1000)) := by
  unfold impl_isCount.f
  simp only [impl_in_eq, Option.bind_some]

def ceilI (a b : Int) : Int := if Int.tmod a b > 0 then Int.tdiv a b + 1 else Int.tdiv a b
theorem tdiv_in (a b : Int) (h0 : 0 ≤ a) (h1 : 1 ≤ b) : 0 ≤ Int.tdiv a b ∧ Int.tdiv a b ≤ a := by
  rw [Int.tdiv_eq_ediv_of_nonneg h0]
  exact ⟨Int.ediv_nonneg h0 (by omega), Int.ediv_le_self _ h0⟩
theorem spec_CeilDiv_eq (a b : Int) (h0 : 0 ≤ a) (h2 : a ≤ 9000000000000) (h1 : 1 ≤ b) : spec_CeilDiv.f a b = some (ceilI a b) := by
  have := tdiv_in a b h0 h1
  unfold spec_CeilDiv.f ceilI
  rw [if_neg (by omega), if_neg (by omega), Base.wrap_in (x := Int.tdiv a b) (by omega) (by omega), Base.wrap_in (x := Int.tdiv a b + 1) (by omega) (by omega)]
  split <;> rfl
theorem impl_CeilDiv_eq (a b : Int) (h0 : 0 ≤ a) (h2 : a ≤ 9000000000000) (h1 : 1 ≤ b) : impl_CeilDiv.f a b = some (ceilI a b) := by
  have := tdiv_in a b h0 h1
  unfold impl_CeilDiv.f ceilI
  rw [if_neg (by omega), if_neg (by omega), Base.wrap_in (x := Int.tdiv a b) (by omega) (by omega), Base.wrap_in (x := Int.tdiv a b + 1) (by omega) (by omega)]
  split <;> rfl
def wantX (c x sg : Int) : Int := if sg = 1 ∧ x < c ∨ sg = -1 ∧ x > c then c else x
def wantI (c r u m s : Int) (nm : ByteArray) (t l : Int) : Int :=
  if c = 0 ∨ bandB s r nm t l = true ∨ bandB (refillP r u m s t).1 (refillP r u m s t).2 nm t l = true ∨ signI s r t ≠ signI (refillP r u m s t).1 (refillP r u m s t).2 t then c
  else wantX c (mn (ceilI (refillP r u m s t).1 t) 1000) (signI (refillP r u m s t).1 (refillP r u m s t).2 t)
def wantV (c r u m s : Int) (nm : ByteArray) (t l : Int) : Int :=
  if (0 ≤ c ∧ c ≤ 1000) ∧ usableB r u m s = true ∧ Base.goalB nm t l = true then wantI c r u m s nm t l else -1
theorem refill_in (r u m s t : Int) (b1 : 1 ≤ r ∧ r ≤ 12) (b2 : 0 ≤ u ∧ u ≤ 12) (b3 : 0 ≤ m ∧ m ≤ 12) (b4 : 0 ≤ s ∧ s ≤ 1000000000) (b5 : 1 ≤ t ∧ t ≤ 1000000) :
    (0 ≤ (refillP r u m s t).1 ∧ (refillP r u m s t).1 ≤ 9000000000000) ∧ 1 ≤ (refillP r u m s t).2 ∧ (refillP r u m s t).2 ≤ 36 := by
  have hm := mul_in m t (by omega) (by omega)
  have hm2 : m * t ≤ 12 * 1000000 := Int.mul_le_mul b3.2 b5.2 (by omega) (by omega)
  unfold refillP
  repeat' split
  all_goals (simp only; omega)
theorem spec_WantOf_eq (c r u m s : Int) (nm : ByteArray) (t l : Int) (hs : nm.size ≤ maxLen) (k : Nat) (hk : nm.size + 3 < k) : spec_WantOf.f k c r u m s nm t l = some (wantV c r u m s nm t l) := by
  obtain ⟨k, rfl⟩ : ∃ m, k = m + 1 := ⟨k - 1, by omega⟩
  obtain ⟨k, rfl⟩ : ∃ m, k = m + 1 := ⟨k - 1, by omega⟩
  unfold spec_WantOf.f wantV
  simp only [spec_count_eq, spec_usable_eq, spec_GoalOk_eq nm t l hs (k + 2) (by omega), Option.bind_some, spec_WantOf.j0]
  by_cases h0 : 0 ≤ c ∧ c ≤ 1000
  · by_cases h1 : usableB r u m s = true
    · by_cases h2 : Base.goalB nm t l = true
      · obtain ⟨b1, b2, b3, b4⟩ := usable_of h1
        obtain ⟨b5, b6⟩ := goal_of h2
        obtain ⟨c1, c2, c3⟩ := refill_in r u m s t b1 b2 b3 b4 b5
        have hR : refillV r u m s nm t l = refillP r u m s t := by simp [refillV, h1, h2]
        simp only [decide_eq_true h0, h1, h2, Bool.not_true, if_true, Bool.false_eq_true, if_false, spec_RefillOf_eq r u m s nm t l hs (k + 1) (by omega), hR, Option.bind_some, spec_RatioSign_eq _ _ _ (k + 1) (by omega), spec_InBand_eq _ _ _ _ _ hs (k + 1) (by omega), spec_WantOf.j1, spec_CeilDiv_eq _ t c1.1 c1.2 b5.1, h0, and_self, wantI]
        generalize (refillP r u m s t).1 = S at *
        generalize (refillP r u m s t).2 = n at *
        by_cases g0 : c = 0
        · simp [g0]
        · by_cases g1 : bandB s r nm t l = true
          · simp [g0, g1]
          · by_cases g2 : bandB S n nm t l = true
            · simp [g0, g1, g2]
            · by_cases g3 : signI s r t = signI S n t
              · simp only [g0, g1, g2, g3, if_false, bne_self_eq_false, Bool.false_eq_true, ne_eq, not_true_eq_false, or_self, wantX]
                generalize ceilI S t = x
                generalize signI S n t = sg
                by_cases g4 : x > 1000
                · rw [if_pos g4, show mn x 1000 = 1000 by unfold mn; omega]
                  by_cases g5 : sg = 1
                  · subst g5
                    by_cases g6 : 1000 < c <;> simp [g6]
                  · by_cases g6 : sg = -1
                    · subst g6
                      by_cases g7 : 1000 > c <;> simp [g7]
                    · simp [g5, g6]
                · rw [if_neg g4, show mn x 1000 = x by unfold mn; omega]
                  by_cases g5 : sg = 1
                  · subst g5
                    by_cases g6 : x < c <;> simp [g6]
                  · by_cases g6 : sg = -1
                    · subst g6
                      by_cases g7 : x > c <;> simp [g7]
                    · simp [g5, g6]
              · have g3' : (signI s r t != signI S n t) = true := by simpa using g3
                simp [g0, g1, g2, g3, g3']
      · simp [h0, h1, h2]
    · simp [h0, h1]
  · simp [h0]
theorem impl_WantOf_eq (c r u m s : Int) (nm : ByteArray) (t l : Int) (hs : nm.size ≤ maxLen) (k : Nat) (hk : nm.size + 3 < k) : impl_WantOf.f k c r u m s nm t l = some (wantV c r u m s nm t l) := by
  obtain ⟨k, rfl⟩ : ∃ m, k = m + 1 := ⟨k - 1, by omega⟩
  obtain ⟨k, rfl⟩ : ∃ m, k = m + 1 := ⟨k - 1, by omega⟩
  unfold impl_WantOf.f wantV
  simp only [impl_count_eq, impl_usable_eq, impl_GoalOk_eq nm t l hs (k + 2) (by omega), Option.bind_some, impl_WantOf.j0]
  by_cases h0 : 0 ≤ c ∧ c ≤ 1000
  · by_cases h1 : usableB r u m s = true
    · by_cases h2 : Base.goalB nm t l = true
      · obtain ⟨b1, b2, b3, b4⟩ := usable_of h1
        obtain ⟨b5, b6⟩ := goal_of h2
        obtain ⟨c1, c2, c3⟩ := refill_in r u m s t b1 b2 b3 b4 b5
        have hR : refillV r u m s nm t l = refillP r u m s t := by simp [refillV, h1, h2]
        simp only [decide_eq_true h0, h1, h2, Bool.not_true, if_true, Bool.false_eq_true, if_false, impl_RefillOf_eq r u m s nm t l hs (k + 1) (by omega), hR, Option.bind_some, impl_RatioSign_eq, impl_InBand_eq _ _ _ _ _ hs (k + 1) (by omega), impl_WantOf.j1, impl_CeilDiv_eq _ t c1.1 c1.2 b5.1, h0, and_self, wantI]
        generalize (refillP r u m s t).1 = S at *
        generalize (refillP r u m s t).2 = n at *
        by_cases g0 : c = 0
        · simp [g0]
        · by_cases g1 : bandB s r nm t l = true
          · simp [g0, g1]
          · by_cases g2 : bandB S n nm t l = true
            · simp [g0, g1, g2]
            · by_cases g3 : signI s r t = signI S n t
              · simp only [g0, g1, g2, g3, if_false, bne_self_eq_false, Bool.false_eq_true, ne_eq, not_true_eq_false, or_self, wantX]
                generalize mn (ceilI S t) 1000 = x
                generalize signI S n t = sg
                by_cases g5 : sg = 1
                · subst g5
                  by_cases g6 : x < c <;> simp [g6]
                · by_cases g6 : sg = -1
                  · subst g6
                    by_cases g7 : x > c <;> simp [g7]
                  · simp [g5, g6]
              · have g3' : (signI s r t != signI S n t) = true := by simpa using g3
                simp [g0, g1, g2, g3, g3']
      · simp [h0, h1, h2]
    · simp [h0, h1]
  · simp [h0]

theorem ceil_spec (a b : Int) (h0 : 0 ≤ a) (h1 : 1 ≤ b) : a ≤ ceilI a b * b ∧ (ceilI a b - 1) * b < a := by
  unfold ceilI
  rw [Int.tmod_eq_emod_of_nonneg h0, Int.tdiv_eq_ediv_of_nonneg h0]
  have e := Int.mul_ediv_add_emod a b
  have m0 := Int.emod_nonneg a (show b ≠ 0 by omega)
  have m1 := Int.emod_lt_of_pos a (show 0 < b by omega)
  have c : b * (a / b) = a / b * b := Int.mul_comm _ _
  by_cases h : a % b > 0
  · rw [if_pos h]
    rw [Int.add_mul, Int.sub_mul, Int.add_mul]
    constructor <;> omega
  · rw [if_neg h]
    rw [Int.sub_mul]
    constructor <;> omega
theorem ceil_mono (a a' b : Int) (h0 : 0 ≤ a) (h : a ≤ a') (h1 : 1 ≤ b) : ceilI a b ≤ ceilI a' b := by
  have p := (ceil_spec a b h0 h1).2
  have q := (ceil_spec a' b (by omega) h1).1
  have : (ceilI a b - 1) * b < ceilI a' b * b := by omega
  have := Int.lt_of_mul_lt_mul_right this (by omega)
  omega
theorem ceil_nonneg (a b : Int) (h0 : 0 ≤ a) (h1 : 1 ≤ b) : 0 ≤ ceilI a b := by
  have := tdiv_in a b h0 h1
  unfold ceilI
  split <;> omega

theorem refill_low (r u m s t : Int) (b3 : 0 ≤ m ∧ m ≤ 12) (b5 : 1 ≤ t ∧ t ≤ 1000000) : (refillP r u m s t).1 = s ∨ (signI s r t = -1 ∧ s ≤ (refillP r u m s t).1) := by
  have hm := mul_in m t (by omega) (by omega)
  unfold refillP
  split
  · exact .inl rfl
  · split
    · exact .inr ⟨‹_›, by simp only; omega⟩
    · split
      · exact .inl rfl
      · exact .inl rfl
theorem missing_law (c r u m s : Int) (nm : ByteArray) (t l : Int) (hv : ¬ wantV c r u m s nm t l < 0) :
    (wantV c r 0 0 s nm t l ≤ c ∧ wantV c r 0 0 s nm t l ≤ wantV c r u m s nm t l ∧ wantV c r u m s nm t l ≤ c) ∨ (wantV c r 0 0 s nm t l ≥ c ∧ c ≤ wantV c r u m s nm t l ∧ wantV c r u m s nm t l ≤ wantV c r 0 0 s nm t l) := by
  unfold wantV at hv ⊢
  by_cases hok : (0 ≤ c ∧ c ≤ 1000) ∧ usableB r u m s = true ∧ Base.goalB nm t l = true
  · rw [if_pos hok]
    obtain ⟨hc, h1, h2⟩ := hok
    obtain ⟨b1, b2, b3, b4⟩ := usable_of h1
    obtain ⟨b5, b6⟩ := goal_of h2
    have h1' : usableB r 0 0 s = true := by
      simp only [usableB, Bool.and_eq_true, decide_eq_true_eq]
      omega
    rw [if_pos ⟨hc, h1', h2⟩]
    obtain ⟨c1, c2, c3⟩ := refill_in r u m s t b1 b2 b3 b4 b5
    have hlow := refill_low r u m s t b3 b5
    have e0 : refillP r 0 0 s t = (s, r) := by simp [refillP]
    unfold wantI
    rw [e0]
    simp only [ne_eq, not_true_eq_false, or_false, or_self_left]
    generalize (refillP r u m s t).1 = S at *
    generalize (refillP r u m s t).2 = n at *
    by_cases g : c = 0 ∨ bandB s r nm t l = true ∨ bandB S n nm t l = true ∨ ¬ signI s r t = signI S n t
    · rw [if_pos g]
      omega
    · rw [if_neg g]
      have g1 : ¬ (c = 0 ∨ bandB s r nm t l = true) := fun h => g (h.elim .inl (fun h => .inr (.inl h)))
      have g2 : signI s r t = signI S n t := Classical.not_not.1 (fun h => g (.inr (.inr (.inr h))))
      have g1' : ¬ (c = 0 ∨ bandB s r nm t l = true ∨ bandB s r nm t l = true) := fun h => g1 (h.elim .inl (fun h => .inr (h.elim id id)))
      first | rw [if_neg g1'] | rw [if_neg g1]
      rw [← g2]
      rcases hlow with rfl | ⟨hs, hle⟩
      · omega
      · rw [hs]
        have hm := ceil_mono s S t b4.1 hle b5.1
        have hx : mn (ceilI s t) 1000 ≤ mn (ceilI S t) 1000 := by unfold mn; omega
        unfold wantX
        generalize mn (ceilI s t) 1000 = x0 at *
        generalize mn (ceilI S t) 1000 = x at *
        refine .inl ?_
        by_cases w1 : x0 > c <;> by_cases w2 : x > c <;> simp [w1, w2] <;> omega
  · rw [if_neg hok] at hv
    omega
theorem FnMissing : laws_FnMissing.Pure := by
  intro l hl _ _
  refine ⟨l.length + 10, ?_⟩
  unfold laws_FnMissing.f laws_big.f
  simp only [Option.bind_some]
  by_cases h : (l.length : Int) > 1048576
  · simp [h]
  · rw [if_neg (by simpa using h)]
    obtain ⟨c, r, u, m, s, nm, t, tol, e, hsz⟩ := drawWant_ok l (by omega) (l.length + 10) (by omega)
    rw [e]
    have hs : nm.size ≤ maxLen := by unfold maxLen; omega
    simp only [Option.bind_some, impl_WantOf_eq _ _ _ _ _ nm t tol hs (l.length + 10) (by omega), spec_WantOf_eq _ _ _ _ _ nm t tol hs (l.length + 10) (by omega)]
    by_cases hv : wantV c r u m s nm t tol < 0
    · rw [if_pos hv]
      simp
    · rw [if_neg hv]
      have key := missing_law c r u m s nm t tol hv
      generalize wantV c r u m s nm t tol = v at *
      generalize wantV c r 0 0 s nm t tol = v0 at *
      simp only [if_true]
      by_cases w1 : v0 ≤ c <;> by_cases w2 : v0 ≤ v <;> by_cases w3 : v ≤ c <;> by_cases w4 : v0 ≥ c <;> by_cases w5 : c ≤ v <;> simp [w1, w2, w3, w4, w5] <;> omega

end Go.Proofs.Yteghfiladifjpaa.Pure
