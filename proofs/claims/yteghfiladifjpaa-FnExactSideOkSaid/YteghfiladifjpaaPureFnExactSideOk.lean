/- The pure half of FnExactSideOk: the printed Lean functions of the program and of the reference agree, so the law's function answers true. Conditions: those of the statement, spelled at the theorem. -/
import Derived.Test.YteghfiladifjpaaPFnExactSideOkx
import Derived.Test.YteghfiladifjpaaBase
namespace Go.Proofs.Yteghfiladifjpaa.Pure
open Go.RowKit Go.Proofs.Yteghfiladifjpaa.PFnExactSideOk Go.Proofs.YteghfiladifjpaaW.PrintWords Go.Proofs.YteghfiladifjpaaW.PrintLast

theorem spec_in_eq (a b c : Int) : spec_l01In.f a b c = some (decide (b ≤ a ∧ a ≤ c)) := by
  unfold spec_l01In.f
  by_cases h : b ≤ a <;> simp [h]
theorem impl_in_eq (a b c : Int) : impl_in.f a b c = some (decide (b ≤ a ∧ a ≤ c)) := by
  unfold impl_in.f
  by_cases h : b ≤ a <;> simp [h]

theorem toPolicyS_l0 (x0 : List S122) (hn : x0.length ≤ 1048576) (d : Nat) : ∀ (k i : Nat), i + d = x0.length → d < k →
    laws_toPolicyS.l0 k x0 ((x0.take i).map (fun x : S122 => (⟨x.f0, x.f1, x.f2⟩ : S113)) ++ List.replicate (x0.length - i) z113) (i : Int) = some (x0.map (fun x : S122 => (⟨x.f0, x.f1, x.f2⟩ : S113))) := by
  induction d with
  | zero =>
    intro k i hd hk
    obtain ⟨k, rfl⟩ : ∃ m, k = m + 1 := ⟨k - 1, by omega⟩
    obtain rfl : i = x0.length := by omega
    simp only [laws_toPolicyS.l0]
    rw [if_neg (by omega)]
    simp
  | succ d ih =>
    intro k i hd hk
    obtain ⟨k, rfl⟩ : ∃ m, k = m + 1 := ⟨k - 1, by omega⟩
    have hr := ih k (i + 1) (by omega) (by omega)
    have e : ((x0.take i).map (fun x : S122 => (⟨x.f0, x.f1, x.f2⟩ : S113)) ++ List.replicate (x0.length - i) z113).set (i : Int).toNat (⟨(rd_T122 x0 (i : Int)).f0, (rd_T122 x0 (i : Int)).f1, (rd_T122 x0 (i : Int)).f2⟩ : S113) = (x0.take (i + 1)).map (fun x : S122 => (⟨x.f0, x.f1, x.f2⟩ : S113)) ++ List.replicate (x0.length - (i + 1)) z113 :=
      Base.fill_step (fun x : S122 => (⟨x.f0, x.f1, x.f2⟩ : S113)) z113 z122 x0 i (by omega)
    simp only [laws_toPolicyS.l0, laws_toPolicy.f, Option.bind_some]
    rw [if_pos (by omega), if_pos (by omega), if_pos (by simp; omega), Base.wrap_in (by omega) (by omega), e, show ((i : Int) + 1) = ((i + 1 : Nat) : Int) by omega]
    exact hr
theorem toPolicyS_eq (x0 : List S122) (hn : x0.length ≤ 1048576) (k : Nat) (hk : x0.length < k) : laws_toPolicyS.f k x0 = some (x0.map (fun x : S122 => (⟨x.f0, x.f1, x.f2⟩ : S113))) := by
  unfold laws_toPolicyS.f
  rw [if_pos (by omega), if_pos (by omega)]
  have h := toPolicyS_l0 x0 hn x0.length k 0 (by omega) hk
  simpa using h
theorem eqPolicyS_l0 (x : List S113) (hn : x.length ≤ 1048576) (d : Nat) : ∀ (k i : Nat), i + d = x.length → d < k → laws_eqPolicyS.l0 k x x (i : Int) = some true := by
  induction d with
  | zero =>
    intro k i hd hk
    obtain ⟨k, rfl⟩ : ∃ m, k = m + 1 := ⟨k - 1, by omega⟩
    simp only [laws_eqPolicyS.l0]
    rw [if_neg (by omega)]
  | succ d ih =>
    intro k i hd hk
    obtain ⟨k, rfl⟩ : ∃ m, k = m + 1 := ⟨k - 1, by omega⟩
    have hr := ih k (i + 1) (by omega) (by omega)
    simp only [laws_eqPolicyS.l0, laws_eqPolicy.f]
    rw [if_pos (by omega), if_pos (by omega), if_pos (by omega), Base.wrap_in (by omega) (by omega), show ((i : Int) + 1) = ((i + 1 : Nat) : Int) by omega]
    simpa using hr
theorem eqPolicyS_eq (x : List S113) (hn : x.length ≤ 1048576) (k : Nat) (hk : x.length < k) : laws_eqPolicyS.f k x x = some true := by
  unfold laws_eqPolicyS.f
  rw [if_pos rfl]
  exact eqPolicyS_l0 x hn x.length k 0 (by omega) hk
def sideTail (n : Int) (a b : Int) : Bool := decide (n ≤ 3) && (decide (0 ≤ a ∧ a ≤ 2) && decide (0 ≤ b ∧ b ≤ 1000))
theorem SideOk_l0 (x : List S113) (a b : Int) (hn : x.length ≤ 1048576) (d : Nat) : ∀ (k i : Nat), i + d = x.length → d < k →
    ∃ r, spec_SideOk.l0 k (i : Int) x a b = some r ∧ impl_SideOk.l0 k x (x.length : Int) (i : Int) x a b = some (r && sideTail (x.length : Int) a b) := by
  induction d with
  | zero =>
    intro k i hd hk
    obtain ⟨k, rfl⟩ : ∃ m, k = m + 1 := ⟨k - 1, by omega⟩
    refine ⟨true, ?_, ?_⟩
    · simp only [spec_SideOk.l0]
      rw [if_neg (by omega)]
    · simp only [impl_SideOk.l0, impl_in_eq, Option.bind_some, sideTail]
      rw [if_neg (by omega)]
      by_cases h1 : (x.length : Int) ≤ 3 <;> by_cases h2 : 0 ≤ a ∧ a ≤ 2 <;> simp [h1, h2]
  | succ d ih =>
    intro k i hd hk
    obtain ⟨k, rfl⟩ : ∃ m, k = m + 1 := ⟨k - 1, by omega⟩
    obtain ⟨r, e1, e2⟩ := ih k (i + 1) (by omega) (by omega)
    by_cases h1 : 0 ≤ (rd_T113 x (i : Int)).f0 ∧ (rd_T113 x (i : Int)).f0 ≤ 1
    · by_cases h2 : 1 ≤ (rd_T113 x (i : Int)).f1 ∧ (rd_T113 x (i : Int)).f1 ≤ 1000
      · by_cases h3 : 1 ≤ (rd_T113 x (i : Int)).f2 ∧ (rd_T113 x (i : Int)).f2 ≤ 1000
        · refine ⟨r, ?_, ?_⟩
          · simp only [spec_SideOk.l0, spec_in_eq, Option.bind_some, decide_eq_true h1, decide_eq_true h2, decide_eq_true h3, if_true]
            rw [if_pos (by omega), if_pos (by omega), Base.wrap_in (x := (i : Int) + 1) (by omega) (by omega), show ((i : Int) + 1) = ((i + 1 : Nat) : Int) by omega]
            exact e1
          · simp only [impl_SideOk.l0, impl_in_eq, Option.bind_some, decide_eq_true h1, decide_eq_true h2, decide_eq_true h3, if_true]
            rw [if_pos (by omega), if_pos (by omega), if_pos (by omega), Base.wrap_in (x := (i : Int) + 1) (by omega) (by omega), show ((i : Int) + 1) = ((i + 1 : Nat) : Int) by omega]
            exact e2
        · refine ⟨false, ?_, ?_⟩
          · simp only [spec_SideOk.l0, spec_in_eq, Option.bind_some, decide_eq_true h1, decide_eq_true h2, decide_eq_false h3, if_true]
            rw [if_pos (by omega), if_pos (by omega)]
            rfl
          · simp only [impl_SideOk.l0, impl_in_eq, Option.bind_some, decide_eq_true h1, decide_eq_true h2, decide_eq_false h3, if_true]
            rw [if_pos (by omega), if_pos (by omega), if_pos (by omega)]
            rfl
      · refine ⟨false, ?_, ?_⟩
        · simp only [spec_SideOk.l0, spec_in_eq, Option.bind_some, decide_eq_true h1, decide_eq_false h2, if_true]
          rw [if_pos (by omega), if_pos (by omega)]
          rfl
        · simp only [impl_SideOk.l0, impl_in_eq, Option.bind_some, decide_eq_true h1, decide_eq_false h2, if_true]
          rw [if_pos (by omega), if_pos (by omega), if_pos (by omega)]
          rfl
    · refine ⟨false, ?_, ?_⟩
      · simp only [spec_SideOk.l0, spec_in_eq, Option.bind_some, decide_eq_false h1]
        rw [if_pos (by omega), if_pos (by omega)]
        rfl
      · simp only [impl_SideOk.l0, impl_in_eq, Option.bind_some, decide_eq_false h1]
        rw [if_pos (by omega), if_pos (by omega), if_pos (by omega)]
        rfl
theorem SideOk_eq (x : List S113) (a b : Int) (hn : x.length ≤ 1048576) (k : Nat) (hk : x.length + 1 < k) : ∃ r, spec_SideOk.f k x a b = some r ∧ impl_SideOk.f k x a b = some r := by
  obtain ⟨k, rfl⟩ : ∃ m, k = m + 1 := ⟨k - 1, by omega⟩
  obtain ⟨r, e1, _⟩ := SideOk_l0 x a b hn x.length k 0 (by omega) (by omega)
  obtain ⟨r', e3, e2⟩ := SideOk_l0 x a b hn x.length (k + 1) 0 (by omega) (by omega)
  have hm := (spec_SideOk.mono_l k).2 _ _ _ _ r e1
  have hrr : r' = r := Option.some.inj (e3.symm.trans hm)
  subst hrr
  refine ⟨r' && sideTail (x.length : Int) a b, ?_, e2⟩
  unfold spec_SideOk.f
  simp only [spec_in_eq, Option.bind_some, spec_SideOk.j0, sideTail]
  have e1' : spec_SideOk.l0 k 0 x a b = some r' := e1
  by_cases h1 : (x.length : Int) > 3
  · simp [show ¬ (x.length : Int) ≤ 3 by omega, h1]
  · have h1' : (x.length : Int) ≤ 3 := by omega
    by_cases h2 : 0 ≤ a ∧ a ≤ 2 <;> by_cases h3 : 0 ≤ b ∧ b ≤ 1000 <;> simp [h1, h1', h2, h3, e1']
theorem FnExactSideOk (l : List S122) (a b : Int) (hl : l.length ≤ maxLen) (_ : ∀ x ∈ l, (Lit.int .i64 x.f0).wf = true ∧ (Lit.int .i64 x.f1).wf = true ∧ (Lit.int .i64 x.f2).wf = true) (_ : (Lit.int .i64 a).wf = true) (_ : (Lit.int .i64 b).wf = true) :
    ∃ k, laws_FnExactSideOk.f k l a b = some true := by
  unfold maxLen at hl
  refine ⟨l.length + 2, ?_⟩
  unfold laws_FnExactSideOk.f laws_szSide.f laws_szPolicyS.f laws_toSide.f laws_eqSide.f
  rw [Base.wrap_in (x := 1048576 - (l.length : Int)) (by omega) (by omega)]
  by_cases h : 1048576 - (l.length : Int) < 0
  · simp [h]
  · have ht := toPolicyS_eq l (by omega) (l.length + 2) (by omega)
    generalize hm : l.map (fun x : S122 => (⟨x.f0, x.f1, x.f2⟩ : S113)) = m at ht
    have hlen : m.length = l.length := by rw [← hm]; simp
    obtain ⟨r, e1, e2⟩ := SideOk_eq m a b (by omega) (l.length + 2) (by omega)
    have e3 := eqPolicyS_eq m (by omega) (l.length + 2) (by omega)
    simp [h, ht, e1, e2, e3]

end Go.Proofs.Yteghfiladifjpaa.Pure
