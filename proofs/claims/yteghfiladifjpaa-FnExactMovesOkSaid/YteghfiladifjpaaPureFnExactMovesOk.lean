/- The pure half of FnExactMovesOk: the printed Lean functions of the program and of the reference agree, so the law's function answers true. Conditions: those of the statement, spelled at the theorem. -/
import Derived.Test.YteghfiladifjpaaPFnExactMovesOkx
import Derived.Test.YteghfiladifjpaaBase
namespace Go.Proofs.Yteghfiladifjpaa.Pure
open Go.RowKit Go.Proofs.Yteghfiladifjpaa.PFnExactMovesOk Go.Proofs.YteghfiladifjpaaW.PrintWords Go.Proofs.YteghfiladifjpaaW.PrintLast

theorem spec_in_eq (a b c : Int) : spec_l01In.f a b c = some (decide (b ≤ a ∧ a ≤ c)) := by
  unfold spec_l01In.f
  by_cases h : b ≤ a <;> simp [h]
theorem impl_in_eq (a b c : Int) : impl_in.f a b c = some (decide (b ≤ a ∧ a ≤ c)) := by
  unfold impl_in.f
  by_cases h : b ≤ a <;> simp [h]

theorem spec_tick_eq (a : Int) : spec_l02Tick.f a = some (decide (0 ≤ a ∧ a ≤ 1000000000)) := by
  unfold spec_l02Tick.f
  simp only [spec_in_eq, Option.bind_some]
theorem impl_tick_eq (a : Int) : impl_isTick.f a = some (decide (0 ≤ a ∧ a ≤ 1000000000)) := by
  unfold impl_isTick.f
  simp only [impl_in_eq, Option.bind_some]

theorem toMoveS_l0 (x0 : List S103) (hn : x0.length ≤ 1048576) (d : Nat) : ∀ (k i : Nat), i + d = x0.length → d < k →
    laws_toMoveS.l0 k x0 ((x0.take i).map (fun x : S103 => (⟨x.f0, x.f1⟩ : S101)) ++ List.replicate (x0.length - i) z101) (i : Int) = some (x0.map (fun x : S103 => (⟨x.f0, x.f1⟩ : S101))) := by
  induction d with
  | zero =>
    intro k i hd hk
    obtain ⟨k, rfl⟩ : ∃ m, k = m + 1 := ⟨k - 1, by omega⟩
    obtain rfl : i = x0.length := by omega
    simp only [laws_toMoveS.l0]
    rw [if_neg (by omega)]
    simp
  | succ d ih =>
    intro k i hd hk
    obtain ⟨k, rfl⟩ : ∃ m, k = m + 1 := ⟨k - 1, by omega⟩
    have hr := ih k (i + 1) (by omega) (by omega)
    have e : ((x0.take i).map (fun x : S103 => (⟨x.f0, x.f1⟩ : S101)) ++ List.replicate (x0.length - i) z101).set (i : Int).toNat (⟨(rd_T103 x0 (i : Int)).f0, (rd_T103 x0 (i : Int)).f1⟩ : S101) = (x0.take (i + 1)).map (fun x : S103 => (⟨x.f0, x.f1⟩ : S101)) ++ List.replicate (x0.length - (i + 1)) z101 :=
      Base.fill_step (fun x : S103 => (⟨x.f0, x.f1⟩ : S101)) z101 z103 x0 i (by omega)
    simp only [laws_toMoveS.l0, laws_toMove.f, Option.bind_some]
    rw [if_pos (by omega), if_pos (by omega), if_pos (by simp; omega), Base.wrap_in (by omega) (by omega), e, show ((i : Int) + 1) = ((i + 1 : Nat) : Int) by omega]
    exact hr
theorem toMoveS_eq (x0 : List S103) (hn : x0.length ≤ 1048576) (k : Nat) (hk : x0.length < k) : laws_toMoveS.f k x0 = some (x0.map (fun x : S103 => (⟨x.f0, x.f1⟩ : S101))) := by
  unfold laws_toMoveS.f
  rw [if_pos (by omega), if_pos (by omega)]
  have h := toMoveS_l0 x0 hn x0.length k 0 (by omega) hk
  simpa using h
theorem eqMoveS_l0 (x : List S101) (hn : x.length ≤ 1048576) (d : Nat) : ∀ (k i : Nat), i + d = x.length → d < k → laws_eqMoveS.l0 k x x (i : Int) = some true := by
  induction d with
  | zero =>
    intro k i hd hk
    obtain ⟨k, rfl⟩ : ∃ m, k = m + 1 := ⟨k - 1, by omega⟩
    simp only [laws_eqMoveS.l0]
    rw [if_neg (by omega)]
  | succ d ih =>
    intro k i hd hk
    obtain ⟨k, rfl⟩ : ∃ m, k = m + 1 := ⟨k - 1, by omega⟩
    have hr := ih k (i + 1) (by omega) (by omega)
    simp only [laws_eqMoveS.l0, laws_eqMove.f]
    rw [if_pos (by omega), if_pos (by omega), if_pos (by omega), Base.wrap_in (by omega) (by omega), show ((i : Int) + 1) = ((i + 1 : Nat) : Int) by omega]
    simpa using hr
theorem eqMoveS_eq (x : List S101) (hn : x.length ≤ 1048576) (k : Nat) (hk : x.length < k) : laws_eqMoveS.f k x x = some true := by
  unfold laws_eqMoveS.f
  rw [if_pos rfl]
  exact eqMoveS_l0 x hn x.length k 0 (by omega) hk
theorem MovesOk_l0 (x : List S101) (hn : x.length ≤ 1048576) (d : Nat) : ∀ (k i : Nat), i + d = x.length → d < k →
    ∃ r, spec_MovesOk.l0 k x (i : Int) = some r ∧ impl_MovesOk.l0 k x x (x.length : Int) (i : Int) = some (r && decide ((x.length : Int) ≤ 200)) := by
  induction d with
  | zero =>
    intro k i hd hk
    obtain ⟨k, rfl⟩ : ∃ m, k = m + 1 := ⟨k - 1, by omega⟩
    simp only [spec_MovesOk.l0, impl_MovesOk.l0]
    rw [if_neg (by omega), if_neg (by omega)]
    exact ⟨true, rfl, by simp⟩
  | succ d ih =>
    intro k i hd hk
    obtain ⟨k, rfl⟩ : ∃ m, k = m + 1 := ⟨k - 1, by omega⟩
    obtain ⟨r, e1, e2⟩ := ih k (i + 1) (by omega) (by omega)
    simp only [spec_MovesOk.l0, impl_MovesOk.l0]
    rw [if_pos (show (i : Int) < (x.length : Int) by omega), if_pos (show (0 : Int) ≤ (i : Int) by omega), Base.wrap_in (x := (i : Int) + 1) (by omega) (by omega), show ((i : Int) + 1) = ((i + 1 : Nat) : Int) by omega, e1, e2]
    simp only [spec_tick_eq, impl_tick_eq, spec_in_eq, impl_in_eq, Option.bind_some]
    by_cases h1 : 0 ≤ (rd_T101 x (i : Int)).f0 ∧ (rd_T101 x (i : Int)).f0 ≤ 1000000000
    · by_cases h2 : -1000 ≤ (rd_T101 x (i : Int)).f1 ∧ (rd_T101 x (i : Int)).f1 ≤ 1000
      · by_cases h3 : (i : Int) > 0
        · rw [Base.wrap_in (x := (i : Int) - 1) (by omega) (by omega)]
          simp only [decide_eq_true h1, decide_eq_true h2, if_true, if_pos h3, if_pos (show (0 : Int) ≤ (i : Int) - 1 by omega), if_pos (show (i : Int) - 1 < (x.length : Int) by omega), if_pos (show (i : Int) < (x.length : Int) by omega), if_pos (show (0 : Int) ≤ (i : Int) by omega)]
          by_cases h4 : (rd_T101 x ((i : Int) - 1)).f0 > (rd_T101 x (i : Int)).f0
          · exact ⟨false, by rw [if_pos h4], by rw [if_pos h4]; simp⟩
          · exact ⟨r, by rw [if_neg h4], by rw [if_neg h4]⟩
        · simp only [decide_eq_true h1, decide_eq_true h2, if_true, if_neg h3, if_pos (show (i : Int) < (x.length : Int) by omega), if_pos (show (0 : Int) ≤ (i : Int) by omega)]
          exact ⟨r, rfl, rfl⟩
      · simp only [decide_eq_true h1, decide_eq_false h2, if_true, if_pos (show (i : Int) < (x.length : Int) by omega), if_pos (show (0 : Int) ≤ (i : Int) by omega)]
        exact ⟨false, by simp, by simp⟩
    · simp only [decide_eq_false h1, if_pos (show (i : Int) < (x.length : Int) by omega), if_pos (show (0 : Int) ≤ (i : Int) by omega)]
      exact ⟨false, by simp, by simp⟩
theorem MovesOk_eq (x : List S101) (hn : x.length ≤ 1048576) (k : Nat) (hk : x.length < k) : ∃ r, spec_MovesOk.f k x = some r ∧ impl_MovesOk.f k x = some r := by
  obtain ⟨r, e1, e2⟩ := MovesOk_l0 x hn x.length k 0 (by omega) hk
  unfold spec_MovesOk.f impl_MovesOk.f
  refine ⟨_, ?_, e2⟩
  by_cases h : (x.length : Int) > 200
  · rw [if_pos h]
    simp [show ¬ (x.length : Int) ≤ 200 by omega]
  · rw [if_neg h]
    simpa [show (x.length : Int) ≤ 200 by omega] using e1
theorem FnExactMovesOk (l : List S103) (hl : l.length ≤ maxLen) (_ : ∀ x ∈ l, (Lit.int .i64 x.f0).wf = true ∧ (Lit.int .i64 x.f1).wf = true) : ∃ k, laws_FnExactMovesOk.f k l = some true := by
  unfold maxLen at hl
  refine ⟨l.length + 1, ?_⟩
  unfold laws_FnExactMovesOk.f laws_szMoveS.f
  rw [Base.wrap_in (x := 1048576 - (l.length : Int)) (by omega) (by omega)]
  by_cases h : 1048576 - (l.length : Int) < 0
  · simp [h]
  · have ht := toMoveS_eq l (by omega) (l.length + 1) (by omega)
    generalize hm : l.map (fun x : S103 => (⟨x.f0, x.f1⟩ : S101)) = m at ht
    have hlen : m.length = l.length := by rw [← hm]; simp
    obtain ⟨r, e1, e2⟩ := MovesOk_eq m (by omega) (l.length + 1) (by omega)
    have e3 := eqMoveS_eq m (by omega) (l.length + 1) (by omega)
    simp [h, ht, e1, e2, e3]

end Go.Proofs.Yteghfiladifjpaa.Pure
