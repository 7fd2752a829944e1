/- The drawn list of samples: it is there, and it is small. Conditions: those at each theorem. -/
import Derived.Test.YtbbnlagdahickaaGreatDoorOFnSamplesx3
import Derived.Test.YtbbnlagdahickaaGreatDoorBase
import Derived.Test.YtbbnlagdahickaaGreatDoorText
namespace Go.Proofs.YtbbnlagdahickaaGreatDoor.Pure
open Go.RowKit Go.Proofs.YtbbnlagdahickaaGreatDoor Go.Proofs.YtbbnlagdahickaaGreatDoor.PFnSamples Go.Proofs.YtbbnlagdahickaaGreatDoorW.PrintWords Go.Proofs.YtbbnlagdahickaaGreatDoorW.PrintLast
set_option linter.unusedSimpArgs false
set_option linter.unusedVariables false

theorem bits_255 (n : Int) : bits .and .i64 n 255 = n % 256 := by
  have h255 : (BitVec.ofInt 64 255).toNat = 2 ^ 8 - 1 := by decide
  have key : (BitVec.ofInt 64 n &&& BitVec.ofInt 64 255).toNat = (n % ((2 ^ 64 : Nat) : Int)).toNat % 2 ^ 8 := by
    rw [BitVec.toNat_and, BitVec.toNat_ofInt, h255, Nat.and_two_pow_sub_one_eq_mod]
  show IntKind.i64.wrap ((BitVec.ofInt 64 n &&& BitVec.ofInt 64 255).toNat : Nat) = n % 256
  rw [key, IntKind.wrap_i64]
  omega
theorem byte_ok (b : List Int) (i h : Int) (hb : b.length ≤ 1048576) (h0 : 0 ≤ i) (h1 : i ≤ b.length) : ∃ v i' h', spec_l01Byte.f b i h = some (v, i', h') ∧ (0 ≤ v ∧ v ≤ 255) ∧ 0 ≤ i' ∧ i' ≤ b.length := by
  unfold spec_l01Byte.f
  simp only [bits_255]
  by_cases h2 : i < (b.length : Int)
  · rw [if_pos h2, if_pos h0]
    refine ⟨_, _, _, rfl, ⟨Int.emod_nonneg _ (by omega), ?_⟩, ?_⟩
    · have := Int.emod_lt_of_pos (wrap64 (bits .xor .i64 (wrap64 (wrap64 (h * 6364136223846793005) + 1442695040888963407) / 8589934592) (wrap64 (wrap64 (h * 6364136223846793005) + 1442695040888963407) / 35184372088832) % 256 + wrap64 (rd b i))) (show (0 : Int) < 256 by omega)
      omega
    · rw [Base.wrap_in (x := i + 1) (by omega) (by omega)]
      omega
  · rw [if_neg h2]
    refine ⟨_, _, _, rfl, ⟨Int.emod_nonneg _ (by omega), ?_⟩, h0, h1⟩
    have := Int.emod_lt_of_pos (bits .xor .i64 (wrap64 (wrap64 (h * 6364136223846793005) + 1442695040888963407) / 8589934592) (wrap64 (wrap64 (h * 6364136223846793005) + 1442695040888963407) / 35184372088832)) (show (0 : Int) < 256 by omega)
    omega
theorem tmod_in (a n : Int) (ha : 0 ≤ a) (hn : 0 < n) : 0 ≤ Int.tmod a n ∧ Int.tmod a n < n := by
  rw [Int.tmod_eq_emod_of_nonneg ha]
  exact ⟨Int.emod_nonneg _ (by omega), Int.emod_lt_of_pos _ hn⟩
theorem below_ok (b : List Int) (i h n : Int) (hb : b.length ≤ 1048576) (h0 : 0 ≤ i) (h1 : i ≤ b.length) : ∃ v i' h', spec_l01Below.f b i h n = some (v, i', h') ∧ (0 ≤ v ∧ (0 < n → v < n)) ∧ 0 ≤ i' ∧ i' ≤ b.length := by
  unfold spec_l01Below.f
  by_cases h2 : n ≤ 0
  · rw [if_pos h2]
    exact ⟨0, i, h, rfl, ⟨by omega, fun h => by omega⟩, h0, h1⟩
  · rw [if_neg h2]
    by_cases h3 : n ≤ 256
    · rw [if_pos h3]
      obtain ⟨v, i', h', e, ⟨v0, v1⟩, j0, j1⟩ := byte_ok b i h hb h0 h1
      rw [e]
      simp only [Option.bind_some]
      rw [if_neg (by omega)]
      have := tmod_in v n v0 (by omega)
      exact ⟨_, _, _, rfl, ⟨this.1, fun _ => this.2⟩, j0, j1⟩
    · rw [if_neg h3]
      obtain ⟨x, i', h', e, ⟨v0, v1⟩, j0, j1⟩ := byte_ok b i h hb h0 h1
      rw [e]
      simp only [Option.bind_some]
      obtain ⟨y, i', h', e, ⟨v2, v3⟩, j0, j1⟩ := byte_ok b i' h' hb j0 j1
      rw [e]
      simp only [Option.bind_some]
      obtain ⟨z, i', h', e, ⟨v4, v5⟩, j0, j1⟩ := byte_ok b i' h' hb j0 j1
      rw [e]
      simp only [Option.bind_some]
      rw [if_neg (by omega), Base.wrap_in (x := x * 65536) (by omega) (by omega), Base.wrap_in (x := y * 256) (by omega) (by omega), Base.wrap_in (x := x * 65536 + y * 256) (by omega) (by omega), Base.wrap_in (x := x * 65536 + y * 256 + z) (by omega) (by omega)]
      have := tmod_in (x * 65536 + y * 256 + z) n (by omega) (by omega)
      exact ⟨_, _, _, rfl, ⟨this.1, fun _ => this.2⟩, j0, j1⟩
theorem pick_ok (b : List Int) (i h : Int) (l : List Int) (hl : 0 < l.length) (hb : b.length ≤ 1048576) (h0 : 0 ≤ i) (h1 : i ≤ b.length) : ∃ v i' h', spec_l01PickInt.f b i h l = some (v, i', h') ∧ v ∈ l ∧ 0 ≤ i' ∧ i' ≤ b.length := by
  unfold spec_l01PickInt.f
  obtain ⟨v, i', h', e, ⟨v0, v1⟩, j0, j1⟩ := below_ok b i h (l.length : Int) hb h0 h1
  have v1 := v1 (by omega)
  rw [e]
  simp only [Option.bind_some]
  rw [if_pos v0, if_pos v1]
  refine ⟨_, _, _, rfl, ?_, j0, j1⟩
  exact Base.getD_mem l 0 v.toNat (by omega)
theorem once_ok (b : List Int) (i h n : Int) (hb : b.length ≤ 1048576) (h0 : 0 ≤ i) (h1 : i ≤ b.length) : ∃ (v : Bool) (i' h' : Int), spec_l01Once.f b i h n = some (v, i', h') ∧ 0 ≤ i' ∧ i' ≤ b.length := by
  unfold spec_l01Once.f
  obtain ⟨v, i', h', e, _, j0, j1⟩ := below_ok b i h n hb h0 h1
  rw [e]
  exact ⟨_, _, _, rfl, j0, j1⟩
theorem new_l0 (l : List Int) (hb : l.length ≤ 1048576) (d : Nat) : ∀ (k i : Nat) (x : Int), i + d = l.length → d < k → ∃ h, spec_l01New.l0 k l x (i : Int) = some (l, 0, h) := by
  induction d with
  | zero =>
    intro k i x hd hk
    obtain ⟨k, rfl⟩ : ∃ m, k = m + 1 := ⟨k - 1, by omega⟩
    simp only [spec_l01New.l0]
    rw [if_neg (by omega)]
    exact ⟨_, rfl⟩
  | succ d ih =>
    intro k i x hd hk
    obtain ⟨k, rfl⟩ : ∃ m, k = m + 1 := ⟨k - 1, by omega⟩
    simp only [spec_l01New.l0]
    rw [if_pos (by omega)]
    by_cases h : (i : Int) < 4000
    · rw [if_pos h, if_pos (by omega), Base.wrap_in (x := (i : Int) + 1) (by omega) (by omega), show ((i : Int) + 1) = ((i + 1 : Nat) : Int) by omega]
      exact ih k (i + 1) _ (by omega) (by omega)
    · rw [if_neg h]
      exact ⟨_, rfl⟩
theorem new_ok (l : List Int) (hb : l.length ≤ 1048576) (k : Nat) (hk : l.length < k) : ∃ h, spec_l01New.f k l = some (l, 0, h) := by
  unfold spec_l01New.f
  exact new_l0 l hb l.length k 0 _ (by omega) hk

theorem text_ok (b : List Int) (i h : Int) (l : List ByteArray) (hl : 0 < l.length) (hb : b.length ≤ 1048576) (h0 : 0 ≤ i) (h1 : i ≤ b.length) : ∃ v i' h', spec_l01PickText.f b i h l = some (v, i', h') ∧ v ∈ l ∧ 0 ≤ i' ∧ i' ≤ b.length := by
  unfold spec_l01PickText.f
  obtain ⟨v, i', h', e, ⟨v0, v1⟩, j0, j1⟩ := below_ok b i h (l.length : Int) hb h0 h1
  have v1 := v1 (by omega)
  rw [e]
  simp only [Option.bind_some]
  rw [if_pos v0, if_pos v1]
  refine ⟨_, _, _, rfl, ?_, j0, j1⟩
  exact Base.getD_mem l ByteArray.empty v.toNat (by omega)
theorem size_ok (b : List Int) (i h : Int) (hb : b.length ≤ 1048576) (h0 : 0 ≤ i) (h1 : i ≤ b.length) : ∃ v i' h', spec_l01DrawSize.f b i h = some (v, i', h') ∧ 0 ≤ i' ∧ i' ≤ b.length := by
  unfold spec_l01DrawSize.f
  obtain ⟨a1, i, h, e, _, h0, h1⟩ := below_ok b i h 100 hb h0 h1
  rw [e]
  simp only [Option.bind_some]
  obtain ⟨a2, i, h, e, _, h0, h1⟩ := below_ok b i h 100 hb h0 h1
  rw [e]
  simp only [Option.bind_some]
  obtain ⟨a3, i, h, e, _, h0, h1⟩ := below_ok b i h 16777216 hb h0 h1
  rw [e]
  simp only [Option.bind_some]
  obtain ⟨a4, i, h, e, _, h0, h1⟩ := pick_ok b i h [0, 1, a1, wrap64 (a2 * 1000), a3, 1000000000, 999999999, 1000000001, (-1)] (by simp) hb h0 h1
  rw [e]
  exact ⟨_, _, _, rfl, h0, h1⟩


theorem sample_ok (b : List Int) (i h : Int) (hb : b.length ≤ 1048576) (h0 : 0 ≤ i) (h1 : i ≤ b.length) : ∃ p m v t i' h', spec_l02DrawSample.f b i h = some (p, m, v, t, i', h') ∧ (p.size ≤ 100 ∧ m.size ≤ 100) ∧ 0 ≤ i' ∧ i' ≤ b.length := by
  unfold spec_l02DrawSample.f
  obtain ⟨p, i, h, e, hm, h0, h1⟩ := text_ok b i h [(⟨#[112, 49]⟩ : ByteArray), (⟨#[112, 50]⟩ : ByteArray), (⟨#[112, 51]⟩ : ByteArray), (⟨#[112, 52]⟩ : ByteArray)] (by simp) hb h0 h1
  have hp : p.size ≤ 100 := by
    simp only [List.mem_cons, List.not_mem_nil, or_false] at hm
    rcases hm with rfl | rfl | rfl | rfl <;> decide
  rw [e]
  simp only [Option.bind_some]
  obtain ⟨m, i, h, e, hm, h0, h1⟩ := text_ok b i h [(⟨#[99, 112, 117]⟩ : ByteArray), (⟨#[99, 112, 117]⟩ : ByteArray), (⟨#[114, 112, 115]⟩ : ByteArray)] (by simp) hb h0 h1
  have hq : m.size ≤ 100 := by
    simp only [List.mem_cons, List.not_mem_nil, or_false] at hm
    rcases hm with rfl | rfl | rfl <;> decide
  rw [e]
  simp only [Option.bind_some]
  obtain ⟨a1, i, h, e, _, h0, h1⟩ := below_ok b i h 2000 hb h0 h1
  rw [e]
  simp only [Option.bind_some]
  obtain ⟨a2, i, h, e, _, h0, h1⟩ := pick_ok b i h [a1, 500, 1000, 1250] (by simp) hb h0 h1
  rw [e]
  simp only [Option.bind_some]
  obtain ⟨a3, i, h, e, _, h0, h1⟩ := below_ok b i h 60 hb h0 h1
  rw [e]
  exact ⟨_, _, _, _, _, _, rfl, ⟨hp, hq⟩, h0, h1⟩
theorem looseS_ok (b : List Int) (i h : Int) (hb : b.length ≤ 1048576) (h0 : 0 ≤ i) (h1 : i ≤ b.length) : ∃ p m v t i' h', spec_l02DrawLoose.f b i h = some (p, m, v, t, i', h') ∧ (p.size ≤ 100 ∧ m.size ≤ 100) ∧ 0 ≤ i' ∧ i' ≤ b.length := by
  unfold spec_l02DrawLoose.f
  obtain ⟨p, m, v, t, i, h, e, ⟨hp, hq⟩, h0, h1⟩ := sample_ok b i h hb h0 h1
  rw [e]
  simp only [Option.bind_some]
  obtain ⟨q, i, h, e, h0, h1⟩ := once_ok b i h 8 hb h0 h1
  rw [e]
  simp only [Option.bind_some]
  cases q with
  | false =>
    rw [if_neg (by simp)]
    exact ⟨_, _, _, _, _, _, rfl, ⟨hp, hq⟩, h0, h1⟩
  | true =>
    rw [if_pos rfl]
    obtain ⟨a5, i, h, e, _, h0, h1⟩ := below_ok b i h 4 hb h0 h1
    rw [e]
    simp only [Option.bind_some]
    by_cases e0 : a5 = 0
    · rw [if_pos e0]
      obtain ⟨n2, i, h, e, hm, h0, h1⟩ := text_ok b i h [(⟨#[]⟩ : ByteArray), (⟨#[80]⟩ : ByteArray), (⟨#[97, 45, 98]⟩ : ByteArray), (⟨#[116, 104, 105, 114, 116, 101, 101, 110, 115, 105, 103, 110, 115]⟩ : ByteArray), (⟨#[116, 119, 101, 108, 118, 101, 115, 105, 103, 110, 115, 49]⟩ : ByteArray)] (by simp) hb h0 h1
      rw [e]
      have hsz2 : n2.size ≤ 100 := by
        simp only [List.mem_cons, List.not_mem_nil, or_false] at hm
        rcases hm with rfl | rfl | rfl | rfl | rfl <;> decide
      exact ⟨_, _, _, _, _, _, rfl, ⟨hsz2, hq⟩, h0, h1⟩
    · rw [if_neg e0]
      by_cases e1 : a5 = 1
      · rw [if_pos e1]
        obtain ⟨n2, i, h, e, hm, h0, h1⟩ := text_ok b i h [(⟨#[]⟩ : ByteArray), (⟨#[99, 32, 112, 117]⟩ : ByteArray)] (by simp) hb h0 h1
        rw [e]
        have hsz2 : n2.size ≤ 100 := by
          simp only [List.mem_cons, List.not_mem_nil, or_false] at hm
          rcases hm with rfl | rfl <;> decide
        exact ⟨_, _, _, _, _, _, rfl, ⟨hp, hsz2⟩, h0, h1⟩
      · rw [if_neg e1]
        by_cases e2 : a5 = 2
        · rw [if_pos e2]
          obtain ⟨a6, i, h, e, h0, h1⟩ := size_ok b i h hb h0 h1
          rw [e]
          exact ⟨_, _, _, _, _, _, rfl, ⟨hp, hq⟩, h0, h1⟩
        · rw [if_neg e2]
          by_cases e3 : a5 = 3
          · rw [if_pos e3]
            obtain ⟨a6, i, h, e, _, h0, h1⟩ := pick_ok b i h [(-1), 1000000000, 1000000001] (by simp) hb h0 h1
            rw [e]
            exact ⟨_, _, _, _, _, _, rfl, ⟨hp, hq⟩, h0, h1⟩
          · rw [if_neg e3]
            exact ⟨_, _, _, _, _, _, rfl, ⟨hp, hq⟩, h0, h1⟩
theorem list_l0 (b : List Int) (hb : b.length ≤ 1048576) (n : Int) (hn : n ≤ 400) (d : Nat) : ∀ (k j : Nat) (out : List S35) (i h : Int), (j : Int) + d = (if n < 0 then 0 else n) → 0 ≤ i → i ≤ b.length → out.length = j → (∀ x ∈ out, x.f0.size ≤ 100 ∧ x.f1.size ≤ 100) → d < k →
    ∃ l i' h', spec_l02DrawList.l0 k out n (j : Int) b i h = some (l, i', h') ∧ l.length ≤ 401 ∧ ∀ x ∈ l, x.f0.size ≤ 100 ∧ x.f1.size ≤ 100 := by
  induction d with
  | zero =>
    intro k j out i h hj h0 h1 hl hs hk
    obtain ⟨k, rfl⟩ : ∃ m, k = m + 1 := ⟨k - 1, by omega⟩
    have hjn : ¬ (j : Int) < n := by split at hj <;> omega
    have hj4 : j ≤ 400 := by split at hj <;> omega
    rw [spec_l02DrawList.l0, if_neg hjn]
    obtain ⟨q, i, h, e, h0, h1⟩ := once_ok b i h 12 hb h0 h1
    rw [e]
    simp only [Option.bind_some]
    cases q with
    | false =>
      rw [if_neg (by simp)]
      exact ⟨_, _, _, rfl, by omega, hs⟩
    | true =>
      rw [if_pos rfl]
      obtain ⟨p, m, v, t, i, h, e, hpm, h0, h1⟩ := looseS_ok b i h hb h0 h1
      rw [e]
      simp only [Option.bind_some]
      rw [if_pos (by omega)]
      refine ⟨_, _, _, rfl, by simp; omega, fun x hx => ?_⟩
      rcases List.mem_append.1 hx with hx | hx
      · exact hs x hx
      · obtain rfl := List.mem_singleton.1 hx
        exact hpm
  | succ d ih =>
    intro k j out i h hj h0 h1 hl hs hk
    obtain ⟨k, rfl⟩ : ∃ m, k = m + 1 := ⟨k - 1, by omega⟩
    have hjn : (j : Int) < n := by split at hj <;> omega
    have e1 : wrap64 ((j : Int) + 1) = ((j + 1 : Nat) : Int) := by rw [Base.wrap_in (by omega) (by omega)]; omega
    rw [spec_l02DrawList.l0, if_pos hjn]
    obtain ⟨p, m, v, t, i, h, e, hpm, h0, h1⟩ := sample_ok b i h hb h0 h1
    rw [e]
    simp only [Option.bind_some]
    rw [if_pos (by omega), e1]
    exact ih k (j + 1) _ i h (by omega) h0 h1 (by simp; omega) (fun x hx => by
      rcases List.mem_append.1 hx with hx | hx
      · exact hs x hx
      · obtain rfl := List.mem_singleton.1 hx
        exact hpm) (by omega)
theorem list_j0 (b : List Int) (hb : b.length ≤ 1048576) (n : Int) (hn : n ≤ 400) (k : Nat) (i h : Int) (h0 : 0 ≤ i) (h1 : i ≤ b.length) (hk : 500 < k) :
    ∃ l i' h', spec_l02DrawList.j0 k [] n b i h = some (l, i', h') ∧ l.length ≤ 401 ∧ ∀ x ∈ l, x.f0.size ≤ 100 ∧ x.f1.size ≤ 100 := by
  obtain ⟨k, rfl⟩ : ∃ m, k = m + 1 := ⟨k - 1, by omega⟩
  rw [spec_l02DrawList.j0]
  exact list_l0 b hb n hn (if n < 0 then 0 else n).toNat k 0 [] i h (by split <;> omega) h0 h1 rfl (by simp) (by split <;> omega)
theorem size20 (l : List Int) : ∃ z, z ≤ 20 ∧ spec_l01Size.f l 20 = some z := by
  unfold spec_l01Size.f
  by_cases c : wrap64 (2 + wrap64 ((l.length : Int) / 16)) > 20
  · rw [if_pos c]
    exact ⟨20, by omega, rfl⟩
  · rw [if_neg c]
    exact ⟨_, by omega, rfl⟩
theorem below20 (b : List Int) (i h z : Int) (hz : z ≤ 20) (hb : b.length ≤ 1048576) (h0 : 0 ≤ i) (h1 : i ≤ b.length) : ∃ v i' h', spec_l01Below.f b i h z = some (v, i', h') ∧ v ≤ 400 ∧ 0 ≤ i' ∧ i' ≤ b.length := by
  by_cases c : 0 < z
  · obtain ⟨n, i', h', e, ⟨n0, n1⟩, g0, g1⟩ := below_ok b i h z hb h0 h1
    have := n1 c
    exact ⟨n, i', h', e, by omega, g0, g1⟩
  · refine ⟨0, i, h, ?_, by omega, h0, h1⟩
    unfold spec_l01Below.f
    rw [if_pos (by omega)]
theorem drawList_ok (l : List Int) (hb : l.length ≤ 1048576) (h : Int) (k : Nat) (hk : 600 < k) : ∃ xs i' h', spec_l02DrawList.f k l 0 h l = some (xs, i', h') ∧ xs.length ≤ 401 ∧ ∀ x ∈ xs, x.f0.size ≤ 100 ∧ x.f1.size ≤ 100 := by
  unfold spec_l02DrawList.f
  rw [Option.bind_some]
  obtain ⟨z, hz1, hz2⟩ := size20 l
  rw [hz2, Option.bind_some]
  obtain ⟨n, i, h, e, hn, h0, h1⟩ := below20 l 0 h z hz1 hb (by omega) (by omega)
  rw [e, Option.bind_some]
  obtain ⟨q, i, h, e, h0, h1⟩ := once_ok l i h 40 hb h0 h1
  rw [e, Option.bind_some]
  cases q with
  | false =>
    rw [if_neg (by simp)]
    exact list_j0 l hb n hn k i h h0 h1 (by omega)
  | true =>
    rw [if_pos rfl]
    obtain ⟨a, i, h, e, hm, h0, h1⟩ := pick_ok l i h [100, 101, 300, 301] (by simp) hb h0 h1
    rw [e, Option.bind_some]
    have ha : a ≤ 400 := by
      simp only [List.mem_cons, List.not_mem_nil, or_false] at hm
      omega
    exact list_j0 l hb a ha k i h h0 h1 (by omega)
/-- The drawn list: few samples, short names. -/
theorem draw_ok (l : List Int) (hb : l.length ≤ 1048576) (k : Nat) (hk : l.length + 600 < k) : ∃ xs, spec_DrawPrintScrape.f k l = some xs ∧ xs.length ≤ 401 ∧ ∀ x ∈ xs, x.f0.size ≤ 100 ∧ x.f1.size ≤ 100 := by
  unfold spec_DrawPrintScrape.f
  obtain ⟨h, e⟩ := new_ok l hb k (by omega)
  obtain ⟨xs, i', h', e2, hl, hs⟩ := drawList_ok l hb h k (by omega)
  rw [e, Option.bind_some, e2, Option.bind_some]
  exact ⟨xs, rfl, hl, hs⟩

end Go.Proofs.YtbbnlagdahickaaGreatDoor.Pure
