/- The pure half of FnExactCombineWants: the printed Lean functions of the program and of the reference agree, so the law's function answers true. Conditions: those of the statement, spelled at the theorem. -/
import Derived.Test.YteghfiladifjpaaPFnExactCombineWantsx
import Derived.Test.YteghfiladifjpaaBase
namespace Go.Proofs.Yteghfiladifjpaa.Pure
open Go.RowKit Go.Proofs.Yteghfiladifjpaa.PFnExactCombineWants Go.Proofs.YteghfiladifjpaaW.PrintWords Go.Proofs.YteghfiladifjpaaW.PrintLast

theorem toIntS_l0 (x0 : List Int) (hn : x0.length ≤ 1048576) (d : Nat) : ∀ (k i : Nat), i + d = x0.length → d < k → laws_toIntS.l0 k x0 ((x0.take i).map (fun x => x) ++ List.replicate (x0.length - i) 0) (i : Int) = some (x0.map fun x => x) := by
  induction d with
  | zero =>
    intro k i hd hk
    obtain ⟨k, rfl⟩ : ∃ m, k = m + 1 := ⟨k - 1, by omega⟩
    obtain rfl : i = x0.length := by omega
    simp only [laws_toIntS.l0]
    rw [if_neg (by omega)]
    simp
  | succ d ih =>
    intro k i hd hk
    obtain ⟨k, rfl⟩ : ∃ m, k = m + 1 := ⟨k - 1, by omega⟩
    have hr := ih k (i + 1) (by omega) (by omega)
    have e : ((x0.take i).map (fun x => x) ++ List.replicate (x0.length - i) 0).set (i : Int).toNat (rd x0 (i : Int)) = (x0.take (i + 1)).map (fun x => x) ++ List.replicate (x0.length - (i + 1)) 0 := Base.fill_step (fun x => x) 0 0 x0 i (by omega)
    simp only [laws_toIntS.l0]
    rw [if_pos (by omega), if_pos (by omega), if_pos (by simp; omega), Base.wrap_in (by omega) (by omega), e, show ((i : Int) + 1) = ((i + 1 : Nat) : Int) by omega]
    exact hr
theorem toIntS_eq (x0 : List Int) (hn : x0.length ≤ 1048576) (k : Nat) (hk : x0.length < k) : laws_toIntS.f k x0 = some x0 := by
  unfold laws_toIntS.f
  rw [if_pos (by omega), if_pos (by omega)]
  have h := toIntS_l0 x0 hn x0.length k 0 (by omega) hk
  simpa using h
theorem eqIntS_l0 (x : List Int) (hn : x.length ≤ 1048576) (d : Nat) : ∀ (k i : Nat), i + d = x.length → d < k → laws_eqIntS.l0 k x x (i : Int) = some true := by
  induction d with
  | zero =>
    intro k i hd hk
    obtain ⟨k, rfl⟩ : ∃ m, k = m + 1 := ⟨k - 1, by omega⟩
    simp only [laws_eqIntS.l0]
    rw [if_neg (by omega)]
  | succ d ih =>
    intro k i hd hk
    obtain ⟨k, rfl⟩ : ∃ m, k = m + 1 := ⟨k - 1, by omega⟩
    have hr := ih k (i + 1) (by omega) (by omega)
    simp only [laws_eqIntS.l0]
    rw [if_pos (by omega), if_pos (by omega), if_pos (by omega), Base.wrap_in (by omega) (by omega), show ((i : Int) + 1) = ((i + 1 : Nat) : Int) by omega]
    simpa using hr
theorem eqIntS_eq (x : List Int) (hn : x.length ≤ 1048576) (k : Nat) (hk : x.length < k) : laws_eqIntS.f k x x = some true := by
  unfold laws_eqIntS.f
  rw [if_pos rfl]
  exact eqIntS_l0 x hn x.length k 0 (by omega) hk

theorem spec_in_eq (a b c : Int) : spec_l01In.f a b c = some (decide (b ≤ a ∧ a ≤ c)) := by
  unfold spec_l01In.f
  by_cases h : b ≤ a <;> simp [h]
theorem impl_in_eq (a b c : Int) : impl_in.f a b c = some (decide (b ≤ a ∧ a ≤ c)) := by
  unfold impl_in.f
  by_cases h : b ≤ a <;> simp [h]

theorem spec_count_eq (a : Int) : spec_l05Count.f a = some (decide (0 ≤ a ∧ a ≤ 1000)) := by
  unfold spec_l05Count.f
  simp only [spec_in_eq, Option.bind_some]
theorem impl_count_eq (a : Int) : impl_isCount.f a = some (decide (0 ≤ a ∧ a ≤ 1000)) := by
  unfold impl_isCount.f
  simp only [impl_in_eq, Option.bind_some]

theorem combine_l0 (c : Int) (x : List Int) (hn : x.length ≤ 300) (d : Nat) : ∀ (k i : Nat) (m : Int) (u : Bool), i + d = x.length → d < k →
    ∃ r, spec_CombineWants.l0 k c x m u (i : Int) = some r ∧ impl_CombineWants.l0 k c m u x (x.length : Int) (i : Int) = some r := by
  induction d with
  | zero =>
    intro k i m u hd hk
    obtain ⟨k, rfl⟩ : ∃ m, k = m + 1 := ⟨k - 1, by omega⟩
    refine ⟨if m < 0 then c else if u = true then (if m < c then c else m) else m, ?_, ?_⟩
    · simp only [spec_CombineWants.l0]
      rw [if_neg (by omega)]
      repeat' split
      all_goals rfl
    · simp only [impl_CombineWants.l0]
      rw [if_neg (by omega)]
      repeat' split
      all_goals rfl
  | succ d ih =>
    intro k i m u hd hk
    obtain ⟨k, rfl⟩ : ∃ m, k = m + 1 := ⟨k - 1, by omega⟩
    have s1 : ∀ r, (if -1 ≤ rd x (i : Int) ∧ rd x (i : Int) ≤ 1000 then spec_CombineWants.l0 k c x (mx m (rd x (i : Int))) (u || decide (rd x (i : Int) < 0)) ((i + 1 : Nat) : Int) else some (-1)) = some r → spec_CombineWants.l0 (k + 1) c x m u (i : Int) = some r := by
      intro r hr
      simp only [spec_CombineWants.l0]
      rw [if_pos (by omega), if_pos (by omega), Base.wrap_in (x := (i : Int) + 1) (by omega) (by omega), show ((i : Int) + 1) = ((i + 1 : Nat) : Int) by omega, spec_in_eq]
      by_cases h1 : -1 ≤ rd x (i : Int) ∧ rd x (i : Int) ≤ 1000
      · rw [if_pos h1] at hr
        simp only [decide_eq_true h1, Option.bind_some, if_true]
        by_cases h2 : rd x (i : Int) < 0 <;> by_cases h3 : rd x (i : Int) > m
        · rw [if_pos h2, if_pos h3, ← hr, show mx m (rd x (i : Int)) = rd x (i : Int) by unfold mx; omega]
          simp [h2]
        · rw [if_pos h2, if_neg h3, ← hr, show mx m (rd x (i : Int)) = m by unfold mx; omega]
          simp [h2]
        · rw [if_neg h2, if_pos h3, ← hr, show mx m (rd x (i : Int)) = rd x (i : Int) by unfold mx; omega]
          simp [h2]
        · rw [if_neg h2, if_neg h3, ← hr, show mx m (rd x (i : Int)) = m by unfold mx; omega]
          simp [h2]
      · rw [if_neg h1] at hr
        simp only [decide_eq_false h1, Option.bind_some]
        simpa using hr
    have s2 : ∀ r, (if -1 ≤ rd x (i : Int) ∧ rd x (i : Int) ≤ 1000 then impl_CombineWants.l0 k c (mx m (rd x (i : Int))) (u || decide (rd x (i : Int) < 0)) x (x.length : Int) ((i + 1 : Nat) : Int) else some (-1)) = some r → impl_CombineWants.l0 (k + 1) c m u x (x.length : Int) (i : Int) = some r := by
      intro r hr
      simp only [impl_CombineWants.l0]
      rw [if_pos (by omega), if_pos (by omega), if_pos (by omega), Base.wrap_in (x := (i : Int) + 1) (by omega) (by omega), show ((i : Int) + 1) = ((i + 1 : Nat) : Int) by omega, impl_in_eq]
      by_cases h1 : -1 ≤ rd x (i : Int) ∧ rd x (i : Int) ≤ 1000
      · rw [if_pos h1] at hr
        simp only [decide_eq_true h1, Option.bind_some, if_true]
        cases u <;> simpa using hr
      · rw [if_neg h1] at hr
        simp only [decide_eq_false h1, Option.bind_some]
        simpa using hr
    by_cases h1 : -1 ≤ rd x (i : Int) ∧ rd x (i : Int) ≤ 1000
    · obtain ⟨r, e1, e2⟩ := ih k (i + 1) (mx m (rd x (i : Int))) (u || decide (rd x (i : Int) < 0)) (by omega) (by omega)
      exact ⟨r, s1 r (by rw [if_pos h1]; exact e1), s2 r (by rw [if_pos h1]; exact e2)⟩
    · exact ⟨-1, s1 _ (by rw [if_neg h1]), s2 _ (by rw [if_neg h1])⟩
theorem combine_eq (c : Int) (x : List Int) (k : Nat) (hk : x.length + 1 < k) : ∃ r, spec_CombineWants.f k c x = some r ∧ impl_CombineWants.f k c x = some r := by
  unfold spec_CombineWants.f impl_CombineWants.f
  obtain ⟨k, rfl⟩ : ∃ m, k = m + 1 := ⟨k - 1, by omega⟩
  simp only [spec_count_eq, impl_count_eq, spec_in_eq, impl_in_eq, Option.bind_some, spec_CombineWants.j0, impl_CombineWants.j0]
  by_cases h1 : 0 ≤ c ∧ c ≤ 1000
  · by_cases h2 : 1 ≤ (x.length : Int) ∧ (x.length : Int) ≤ 300
    · obtain ⟨r, e1, e2⟩ := combine_l0 c x (by omega) x.length k 0 (-1) false (by omega) (by omega)
      exact ⟨r, by simp only [decide_eq_true h1, decide_eq_true h2]; simpa using e1, by simp only [decide_eq_true h1, decide_eq_true h2]; simpa using e2⟩
    · exact ⟨-1, by simp [h1, h2], by simp [h1, h2]⟩
  · exact ⟨-1, by simp [h1], by simp [h1]⟩

theorem FnExactCombineWants : laws_FnExactCombineWants.Pure := by
  intro c l _ _ _ _
  refine ⟨l.length + 2, ?_⟩
  unfold laws_FnExactCombineWants.f
  by_cases h : (l.length : Int) > 1048576
  · rw [if_pos h]
  · rw [if_neg h]
    obtain ⟨r, h1, h2⟩ := combine_eq c l (l.length + 2) (by omega)
    simp only [toIntS_eq l (by omega) (l.length + 2) (by omega), eqIntS_eq l (by omega) (l.length + 2) (by omega), Option.bind_some, h1, h2, if_true]

end Go.Proofs.Yteghfiladifjpaa.Pure
