/- The pure half of FnCombined: the law's printed Lean function answers true at every list of bytes. Conditions: those of the statement, spelled at the theorem. -/
import Derived.Test.YteghfiladifjpaaOFnCombinedx
import Derived.Test.YteghfiladifjpaaBase
namespace Go.Proofs.Yteghfiladifjpaa.Pure
open Go.RowKit Go.Proofs.Yteghfiladifjpaa.PFnCombined Go.Proofs.YteghfiladifjpaaW.PrintWords Go.Proofs.YteghfiladifjpaaW.PrintLast
set_option linter.unusedSimpArgs false
set_option linter.unusedVariables false

theorem bits_255 (n : Int) : bits .and .i64 n 255 = n % 256 := by
  have h255 : (BitVec.ofInt 64 255).toNat = 2 ^ 8 - 1 := by decide
  have key : (BitVec.ofInt 64 n &&& BitVec.ofInt 64 255).toNat = (n % ((2 ^ 64 : Nat) : Int)).toNat % 2 ^ 8 := by
    rw [BitVec.toNat_and, BitVec.toNat_ofInt, h255, Nat.and_two_pow_sub_one_eq_mod]
  show IntKind.i64.wrap ((BitVec.ofInt 64 n &&& BitVec.ofInt 64 255).toNat : Nat) = n % 256
  rw [key, IntKind.wrap_i64]
  omega
theorem byte_ok (b : List Int) (i h : Int) (hb : b.length ≤ 1048576) (h0 : 0 ≤ i) (h1 : i ≤ b.length) : ∃ v i' h', spec_l01Byte.f b i h = some (v, i', h') ∧ (0 ≤ v ∧ v ≤ 255) ∧ 0 ≤ i' ∧ i' ≤ b.length := by
  unfold spec_l01Byte.f
  simp only [bits_255]
  by_cases h2 : i < (b.length : Int)
  · rw [if_pos h2, if_pos h0]
    refine ⟨_, _, _, rfl, ⟨Int.emod_nonneg _ (by omega), ?_⟩, ?_⟩
    · have := Int.emod_lt_of_pos (wrap64 (bits .xor .i64 (wrap64 (wrap64 (h * 6364136223846793005) + 1442695040888963407) / 8589934592) (wrap64 (wrap64 (h * 6364136223846793005) + 1442695040888963407) / 35184372088832) % 256 + wrap64 (rd b i))) (show (0 : Int) < 256 by omega)
      omega
    · rw [Base.wrap_in (x := i + 1) (by omega) (by omega)]
      omega
  · rw [if_neg h2]
    refine ⟨_, _, _, rfl, ⟨Int.emod_nonneg _ (by omega), ?_⟩, h0, h1⟩
    have := Int.emod_lt_of_pos (bits .xor .i64 (wrap64 (wrap64 (h * 6364136223846793005) + 1442695040888963407) / 8589934592) (wrap64 (wrap64 (h * 6364136223846793005) + 1442695040888963407) / 35184372088832)) (show (0 : Int) < 256 by omega)
    omega
theorem tmod_in (a n : Int) (ha : 0 ≤ a) (hn : 0 < n) : 0 ≤ Int.tmod a n ∧ Int.tmod a n < n := by
  rw [Int.tmod_eq_emod_of_nonneg ha]
  exact ⟨Int.emod_nonneg _ (by omega), Int.emod_lt_of_pos _ hn⟩
theorem below_ok (b : List Int) (i h n : Int) (hb : b.length ≤ 1048576) (h0 : 0 ≤ i) (h1 : i ≤ b.length) : ∃ v i' h', spec_l01Below.f b i h n = some (v, i', h') ∧ (0 ≤ v ∧ (0 < n → v < n)) ∧ 0 ≤ i' ∧ i' ≤ b.length := by
  unfold spec_l01Below.f
  by_cases h2 : n ≤ 0
  · rw [if_pos h2]
    exact ⟨0, i, h, rfl, ⟨by omega, fun h => by omega⟩, h0, h1⟩
  · rw [if_neg h2]
    by_cases h3 : n ≤ 256
    · rw [if_pos h3]
      obtain ⟨v, i', h', e, ⟨v0, v1⟩, j0, j1⟩ := byte_ok b i h hb h0 h1
      rw [e]
      simp only [Option.bind_some]
      rw [if_neg (by omega)]
      have := tmod_in v n v0 (by omega)
      exact ⟨_, _, _, rfl, ⟨this.1, fun _ => this.2⟩, j0, j1⟩
    · rw [if_neg h3]
      obtain ⟨x, i', h', e, ⟨v0, v1⟩, j0, j1⟩ := byte_ok b i h hb h0 h1
      rw [e]
      simp only [Option.bind_some]
      obtain ⟨y, i', h', e, ⟨v2, v3⟩, j0, j1⟩ := byte_ok b i' h' hb j0 j1
      rw [e]
      simp only [Option.bind_some]
      obtain ⟨z, i', h', e, ⟨v4, v5⟩, j0, j1⟩ := byte_ok b i' h' hb j0 j1
      rw [e]
      simp only [Option.bind_some]
      rw [if_neg (by omega), Base.wrap_in (x := x * 65536) (by omega) (by omega), Base.wrap_in (x := y * 256) (by omega) (by omega), Base.wrap_in (x := x * 65536 + y * 256) (by omega) (by omega), Base.wrap_in (x := x * 65536 + y * 256 + z) (by omega) (by omega)]
      have := tmod_in (x * 65536 + y * 256 + z) n (by omega) (by omega)
      exact ⟨_, _, _, rfl, ⟨this.1, fun _ => this.2⟩, j0, j1⟩
theorem pick_ok (b : List Int) (i h : Int) (l : List Int) (hl : 0 < l.length) (hb : b.length ≤ 1048576) (h0 : 0 ≤ i) (h1 : i ≤ b.length) : ∃ v i' h', spec_l01PickInt.f b i h l = some (v, i', h') ∧ v ∈ l ∧ 0 ≤ i' ∧ i' ≤ b.length := by
  unfold spec_l01PickInt.f
  obtain ⟨v, i', h', e, ⟨v0, v1⟩, j0, j1⟩ := below_ok b i h (l.length : Int) hb h0 h1
  have v1 := v1 (by omega)
  rw [e]
  simp only [Option.bind_some]
  rw [if_pos v0, if_pos v1]
  refine ⟨_, _, _, rfl, ?_, j0, j1⟩
  exact Base.getD_mem l 0 v.toNat (by omega)
theorem once_ok (b : List Int) (i h n : Int) (hb : b.length ≤ 1048576) (h0 : 0 ≤ i) (h1 : i ≤ b.length) : ∃ (v : Bool) (i' h' : Int), spec_l01Once.f b i h n = some (v, i', h') ∧ 0 ≤ i' ∧ i' ≤ b.length := by
  unfold spec_l01Once.f
  obtain ⟨v, i', h', e, _, j0, j1⟩ := below_ok b i h n hb h0 h1
  rw [e]
  exact ⟨_, _, _, rfl, j0, j1⟩
theorem new_l0 (l : List Int) (hb : l.length ≤ 1048576) (d : Nat) : ∀ (k i : Nat) (x : Int), i + d = l.length → d < k → ∃ h, spec_l01New.l0 k l x (i : Int) = some (l, 0, h) := by
  induction d with
  | zero =>
    intro k i x hd hk
    obtain ⟨k, rfl⟩ : ∃ m, k = m + 1 := ⟨k - 1, by omega⟩
    simp only [spec_l01New.l0]
    rw [if_neg (by omega)]
    exact ⟨_, rfl⟩
  | succ d ih =>
    intro k i x hd hk
    obtain ⟨k, rfl⟩ : ∃ m, k = m + 1 := ⟨k - 1, by omega⟩
    simp only [spec_l01New.l0]
    rw [if_pos (by omega)]
    by_cases h : (i : Int) < 4000
    · rw [if_pos h, if_pos (by omega), Base.wrap_in (x := (i : Int) + 1) (by omega) (by omega), show ((i : Int) + 1) = ((i + 1 : Nat) : Int) by omega]
      exact ih k (i + 1) _ (by omega) (by omega)
    · rw [if_neg h]
      exact ⟨_, rfl⟩
theorem new_ok (l : List Int) (hb : l.length ≤ 1048576) (k : Nat) (hk : l.length < k) : ∃ h, spec_l01New.f k l = some (l, 0, h) := by
  unfold spec_l01New.f
  exact new_l0 l hb l.length k 0 _ (by omega) hk

theorem spec_in_eq (a b c : Int) : spec_l01In.f a b c = some (decide (b ≤ a ∧ a ≤ c)) := by
  unfold spec_l01In.f
  by_cases h : b ≤ a <;> simp [h]
theorem impl_in_eq (a b c : Int) : impl_in.f a b c = some (decide (b ≤ a ∧ a ≤ c)) := by
  unfold impl_in.f
  by_cases h : b ≤ a <;> simp [h]

theorem spec_count_eq (a : Int) : spec_l05Count.f a = some (decide (0 ≤ a ∧ a ≤ 1000)) := by
  unfold spec_l05Count.f
  simp only [spec_in_eq, Option.bind_some]
theorem impl_count_eq (a : Int) : impl_isCount.f a = some (decide (0 ≤ a ∧ a ≤ 1000)) := by
  unfold impl_isCount.f
  simp only [impl_in_eq, Option.bind_some]

def CombineGood (c : Int) (x : List Int) (r : Int) : Prop := r = -1 ∨ (0 ≤ r ∧ ∀ j : Nat, j < x.length → rd x (j : Int) ≤ r ∧ (rd x (j : Int) < 0 → c ≤ r))
theorem combine_l0 (c : Int) (x : List Int) (hn : x.length ≤ 300) (d : Nat) : ∀ (k i : Nat) (m : Int) (u : Bool), i + d = x.length → d < k →
    ∃ r, spec_CombineWants.l0 k c x m u (i : Int) = some r ∧ impl_CombineWants.l0 k c m u x (x.length : Int) (i : Int) = some r ∧ (0 ≤ c → (∀ j : Nat, j < i → rd x (j : Int) ≤ m ∧ (rd x (j : Int) < 0 → u = true)) → CombineGood c x r) := by
  induction d with
  | zero =>
    intro k i m u hd hk
    obtain ⟨k, rfl⟩ : ∃ m, k = m + 1 := ⟨k - 1, by omega⟩
    refine ⟨if m < 0 then c else if u = true then (if m < c then c else m) else m, ?_, ?_, ?_⟩
    · simp only [spec_CombineWants.l0]
      rw [if_neg (by omega)]
      repeat' split
      all_goals rfl
    · simp only [impl_CombineWants.l0]
      rw [if_neg (by omega)]
      repeat' split
      all_goals rfl
    · intro hc hj
      obtain rfl : i = x.length := by omega
      refine .inr ⟨?_, fun j hlt => ?_⟩
      · repeat' split
        all_goals omega
      · obtain ⟨g1, g2⟩ := hj j hlt
        by_cases n1 : m < 0
        · rw [if_pos n1]
          exact ⟨by omega, fun _ => by omega⟩
        · rw [if_neg n1]
          by_cases n2 : u = true
          · rw [if_pos n2]
            by_cases n3 : m < c
            · rw [if_pos n3]
              exact ⟨by omega, fun _ => by omega⟩
            · rw [if_neg n3]
              exact ⟨g1, fun _ => by omega⟩
          · rw [if_neg n2]
            exact ⟨g1, fun hneg => absurd (g2 hneg) n2⟩
  | succ d ih =>
    intro k i m u hd hk
    obtain ⟨k, rfl⟩ : ∃ m, k = m + 1 := ⟨k - 1, by omega⟩
    have s1 : ∀ r, (if -1 ≤ rd x (i : Int) ∧ rd x (i : Int) ≤ 1000 then spec_CombineWants.l0 k c x (mx m (rd x (i : Int))) (u || decide (rd x (i : Int) < 0)) ((i + 1 : Nat) : Int) else some (-1)) = some r → spec_CombineWants.l0 (k + 1) c x m u (i : Int) = some r := by
      intro r hr
      simp only [spec_CombineWants.l0]
      rw [if_pos (by omega), if_pos (by omega), Base.wrap_in (x := (i : Int) + 1) (by omega) (by omega), show ((i : Int) + 1) = ((i + 1 : Nat) : Int) by omega, spec_in_eq]
      by_cases h1 : -1 ≤ rd x (i : Int) ∧ rd x (i : Int) ≤ 1000
      · rw [if_pos h1] at hr
        simp only [decide_eq_true h1, Option.bind_some, if_true]
        by_cases h2 : rd x (i : Int) < 0 <;> by_cases h3 : rd x (i : Int) > m
        · rw [if_pos h2, if_pos h3, ← hr, show mx m (rd x (i : Int)) = rd x (i : Int) by unfold mx; omega]
          simp [h2]
        · rw [if_pos h2, if_neg h3, ← hr, show mx m (rd x (i : Int)) = m by unfold mx; omega]
          simp [h2]
        · rw [if_neg h2, if_pos h3, ← hr, show mx m (rd x (i : Int)) = rd x (i : Int) by unfold mx; omega]
          simp [h2]
        · rw [if_neg h2, if_neg h3, ← hr, show mx m (rd x (i : Int)) = m by unfold mx; omega]
          simp [h2]
      · rw [if_neg h1] at hr
        simp only [decide_eq_false h1, Option.bind_some]
        simpa using hr
    have s2 : ∀ r, (if -1 ≤ rd x (i : Int) ∧ rd x (i : Int) ≤ 1000 then impl_CombineWants.l0 k c (mx m (rd x (i : Int))) (u || decide (rd x (i : Int) < 0)) x (x.length : Int) ((i + 1 : Nat) : Int) else some (-1)) = some r → impl_CombineWants.l0 (k + 1) c m u x (x.length : Int) (i : Int) = some r := by
      intro r hr
      simp only [impl_CombineWants.l0]
      rw [if_pos (by omega), if_pos (by omega), if_pos (by omega), Base.wrap_in (x := (i : Int) + 1) (by omega) (by omega), show ((i : Int) + 1) = ((i + 1 : Nat) : Int) by omega, impl_in_eq]
      by_cases h1 : -1 ≤ rd x (i : Int) ∧ rd x (i : Int) ≤ 1000
      · rw [if_pos h1] at hr
        simp only [decide_eq_true h1, Option.bind_some, if_true]
        cases u <;> simpa using hr
      · rw [if_neg h1] at hr
        simp only [decide_eq_false h1, Option.bind_some]
        simpa using hr
    by_cases h1 : -1 ≤ rd x (i : Int) ∧ rd x (i : Int) ≤ 1000
    · obtain ⟨r, e1, e2, e3⟩ := ih k (i + 1) (mx m (rd x (i : Int))) (u || decide (rd x (i : Int) < 0)) (by omega) (by omega)
      refine ⟨r, s1 r (by rw [if_pos h1]; exact e1), s2 r (by rw [if_pos h1]; exact e2), fun hc hj => e3 hc fun j hlt => ?_⟩
      by_cases hji : j = i
      · subst hji
        exact ⟨by unfold mx; omega, fun hneg => by simp [hneg]⟩
      · obtain ⟨g1, g2⟩ := hj j (by omega)
        exact ⟨by unfold mx; omega, fun hneg => by simp [g2 hneg]⟩
    · exact ⟨-1, s1 _ (by rw [if_neg h1]), s2 _ (by rw [if_neg h1]), fun _ _ => .inl rfl⟩
theorem combine_eq (c : Int) (x : List Int) (k : Nat) (hk : x.length + 1 < k) : ∃ r, spec_CombineWants.f k c x = some r ∧ impl_CombineWants.f k c x = some r ∧ CombineGood c x r := by
  unfold spec_CombineWants.f impl_CombineWants.f
  obtain ⟨k, rfl⟩ : ∃ m, k = m + 1 := ⟨k - 1, by omega⟩
  simp only [spec_count_eq, impl_count_eq, spec_in_eq, impl_in_eq, Option.bind_some, spec_CombineWants.j0, impl_CombineWants.j0]
  by_cases h1 : 0 ≤ c ∧ c ≤ 1000
  · by_cases h2 : 1 ≤ (x.length : Int) ∧ (x.length : Int) ≤ 300
    · obtain ⟨r, e1, e2, e3⟩ := combine_l0 c x (by omega) x.length k 0 (-1) false (by omega) (by omega)
      exact ⟨r, by simp only [decide_eq_true h1, decide_eq_true h2]; simpa using e1, by simp only [decide_eq_true h1, decide_eq_true h2]; simpa using e2, e3 h1.1 (fun j hj => by omega)⟩
    · exact ⟨-1, by simp [h1, h2], by simp [h1, h2], .inl rfl⟩
  · exact ⟨-1, by simp [h1], by simp [h1], .inl rfl⟩

theorem j2_ok (b : List Int) (out : List Int) (q : Bool) (i h : Int) (hb : b.length ≤ 1048576) (h0 : 0 ≤ i) (h1 : i ≤ b.length) (hq : q = true → 0 < out.length) (k : Nat) (hk : 0 < k) :
    ∃ c o, spec_DrawCombineWants.j2 k out q b i h = some (c, o) ∧ o.length = out.length := by
  obtain ⟨k, rfl⟩ : ∃ m, k = m + 1 := ⟨k - 1, by omega⟩
  simp only [spec_DrawCombineWants.j2]
  cases q with
  | true =>
    have hq := hq rfl
    rw [if_pos rfl]
    obtain ⟨a1, i, h, e, _, h0, h1⟩ := pick_ok b i h [(-2), 1000, 1001] (by simp) hb h0 h1
    rw [e]
    simp only [Option.bind_some]
    rw [if_pos (by omega)]
    obtain ⟨a2, i, h, e, _, h0, h1⟩ := below_ok b i h 12 hb h0 h1
    rw [e]
    simp only [Option.bind_some]
    obtain ⟨a3, i, h, e, _, h0, h1⟩ := below_ok b i h 12 hb h0 h1
    rw [e]
    simp only [Option.bind_some]
    obtain ⟨a4, i, h, e, _, h0, h1⟩ := pick_ok b i h [a2, a3, 1000, 1001, (-1)] (by simp) hb h0 h1
    rw [e]
    exact ⟨_, _, rfl, by simp⟩
  | false =>
    rw [if_neg (by simp)]
    obtain ⟨a2, i, h, e, _, h0, h1⟩ := below_ok b i h 12 hb h0 h1
    rw [e]
    simp only [Option.bind_some]
    obtain ⟨a3, i, h, e, _, h0, h1⟩ := below_ok b i h 12 hb h0 h1
    rw [e]
    simp only [Option.bind_some]
    obtain ⟨a4, i, h, e, _, h0, h1⟩ := pick_ok b i h [a2, a3, 1000, 1001, (-1)] (by simp) hb h0 h1
    rw [e]
    exact ⟨_, _, rfl, by simp⟩
theorem draw_l0 (b : List Int) (n : Nat) (hb : b.length ≤ 1048576) (hn : n ≤ 301) (d : Nat) : ∀ (k : Nat) (out : List Int) (i h : Int), out.length + d = n → d + 1 < k → 0 ≤ i → i ≤ b.length →
    ∃ c o, spec_DrawCombineWants.l0 k out (n : Int) (out.length : Int) b i h = some (c, o) ∧ o.length = n := by
  induction d with
  | zero =>
    intro k out i h hd hk h0 h1
    obtain ⟨k, rfl⟩ : ∃ m, k = m + 1 := ⟨k - 1, by omega⟩
    simp only [spec_DrawCombineWants.l0]
    rw [if_neg (by omega)]
    obtain ⟨q, i, h, e, h0, h1⟩ := once_ok b i h 15 hb h0 h1
    rw [e]
    simp only [Option.bind_some]
    cases q with
    | true =>
      obtain ⟨c, o, e, hl⟩ := j2_ok b out (decide ((n : Int) > 0)) i h hb h0 h1 (fun hh => by have := of_decide_eq_true hh; omega) k (by omega)
      exact ⟨c, o, by rw [if_pos rfl]; exact e, by omega⟩
    | false =>
      obtain ⟨c, o, e, hl⟩ := j2_ok b out false i h hb h0 h1 (fun hh => by cases hh) k (by omega)
      exact ⟨c, o, by rw [if_neg (by simp)]; exact e, by omega⟩
  | succ d ih =>
    intro k out i h hd hk h0 h1
    obtain ⟨k, rfl⟩ : ∃ m, k = m + 1 := ⟨k - 1, by omega⟩
    simp only [spec_DrawCombineWants.l0]
    rw [if_pos (by omega)]
    obtain ⟨a2, i, h, e, _, h0, h1⟩ := below_ok b i h 12 hb h0 h1
    rw [e]
    simp only [Option.bind_some]
    obtain ⟨a3, i, h, e, _, h0, h1⟩ := below_ok b i h 12 hb h0 h1
    rw [e]
    simp only [Option.bind_some]
    obtain ⟨a4, i, h, e, _, h0, h1⟩ := below_ok b i h 12 hb h0 h1
    rw [e]
    simp only [Option.bind_some]
    obtain ⟨a5, i, h, e, _, h0, h1⟩ := pick_ok b i h [a2, a3, a4, (-1)] (by simp) hb h0 h1
    rw [e]
    simp only [Option.bind_some]
    rw [if_pos (by omega), Base.wrap_in (x := (out.length : Int) + 1) (by omega) (by omega)]
    have hr := ih k (out ++ [a5]) i h (by simp; omega) (by omega) h0 h1
    rw [show ((out ++ [a5]).length : Int) = (out.length : Int) + 1 by simp] at hr
    exact hr
theorem draw_ok (l : List Int) (hb : l.length ≤ 1048576) (k : Nat) (hk : l.length + 310 < k) : ∃ c o, spec_DrawCombineWants.f k l = some (c, o) ∧ o.length ≤ 301 := by
  unfold spec_DrawCombineWants.f
  obtain ⟨h, e⟩ := new_ok l hb k (by omega)
  rw [e]
  simp only [Option.bind_some]
  obtain ⟨n, i, h, e, ⟨n0, n1⟩, h0, h1⟩ := below_ok l 0 h 5 hb (by omega) (by omega)
  have n1 := n1 (by omega)
  rw [e]
  simp only [Option.bind_some]
  obtain ⟨q, i, h, e, h0, h1⟩ := once_ok l i h 40 hb h0 h1
  rw [e]
  simp only [Option.bind_some]
  have step : ∀ (n : Int) (i h : Int), 0 ≤ n → n ≤ 301 → 0 ≤ i → i ≤ l.length → ∃ c o, spec_DrawCombineWants.j0 k [] n l i h = some (c, o) ∧ o.length ≤ 301 := by
    intro n i h n0 n1 h0 h1
    obtain ⟨k, rfl⟩ : ∃ m, k = m + 1 := ⟨k - 1, by omega⟩
    obtain ⟨m, rfl⟩ := Int.eq_ofNat_of_zero_le n0
    obtain ⟨c, o, e, hl⟩ := draw_l0 l m hb (by omega) m k [] i h (by simp) (by omega) h0 h1
    exact ⟨c, o, by simp only [spec_DrawCombineWants.j0]; exact e, by omega⟩
  cases q with
  | true =>
    rw [if_pos rfl]
    obtain ⟨n', i, h, e, ⟨m0, m1⟩, h0, h1⟩ := below_ok l i h 2 hb h0 h1
    have m1 := m1 (by omega)
    rw [e]
    simp only [Option.bind_some]
    rw [Base.wrap_in (x := 300 + n') (by omega) (by omega)]
    exact step _ _ _ (by omega) (by omega) h0 h1
  | false =>
    rw [if_neg (by simp)]
    exact step _ _ _ (by omega) (by omega) h0 h1
theorem law_l0 (c : Int) (x : List Int) (r : Int) (hn : x.length ≤ 301) (hg : ∀ j : Nat, j < x.length → rd x (j : Int) ≤ r ∧ (rd x (j : Int) < 0 → c ≤ r)) (d : Nat) : ∀ (k i : Nat), i + d = x.length → d < k → laws_FnCombined.l0 k c x r (i : Int) = some true := by
  induction d with
  | zero =>
    intro k i hd hk
    obtain ⟨k, rfl⟩ : ∃ m, k = m + 1 := ⟨k - 1, by omega⟩
    simp only [laws_FnCombined.l0]
    rw [if_neg (by omega)]
  | succ d ih =>
    intro k i hd hk
    obtain ⟨k, rfl⟩ : ∃ m, k = m + 1 := ⟨k - 1, by omega⟩
    obtain ⟨g1, g2⟩ := hg i (by omega)
    have hr := ih k (i + 1) (by omega) (by omega)
    simp only [laws_FnCombined.l0]
    rw [if_pos (by omega), if_pos (by omega), if_neg (by omega), Base.wrap_in (x := (i : Int) + 1) (by omega) (by omega), show ((i : Int) + 1) = ((i + 1 : Nat) : Int) by omega, hr]
    by_cases h : rd x (i : Int) < 0
    · have := g2 h
      rw [if_pos h, if_neg (by omega)]
    · rw [if_neg h]
theorem FnCombined : laws_FnCombined.Pure := by
  intro l hl _ _
  refine ⟨l.length + 400, ?_⟩
  unfold laws_FnCombined.f laws_big.f
  simp only [Option.bind_some]
  by_cases h : (l.length : Int) > 1048576
  · simp [h]
  · rw [if_neg (by simpa using h)]
    obtain ⟨c, o, e, ho⟩ := draw_ok l (by omega) (l.length + 400) (by omega)
    rw [e]
    simp only [Option.bind_some]
    obtain ⟨r, e1, e2, e3⟩ := combine_eq c o (l.length + 400) (by omega)
    rw [e1, e2]
    simp only [Option.bind_some, if_true]
    by_cases hr : r < 0
    · rw [if_pos hr]
      rcases e3 with rfl | ⟨e3, _⟩
      · rfl
      · omega
    · rw [if_neg hr]
      rcases e3 with rfl | ⟨_, e4⟩
      · omega
      · exact law_l0 c o r ho e4 o.length _ 0 (by omega) (by omega)

end Go.Proofs.Yteghfiladifjpaa.Pure
