/- The pure half of FnExactCountClass: the printed Lean functions of the program and of the reference agree, so the law's function answers true. Conditions: those of the statement, spelled at the theorem. -/
import Derived.Test.YteghfiladifjpaaPFnExactCountClassx
import Derived.Test.YteghfiladifjpaaBase
namespace Go.Proofs.Yteghfiladifjpaa.Pure
open Go.RowKit Go.Proofs.Yteghfiladifjpaa.PFnExactCountClass Go.Proofs.YteghfiladifjpaaW.PrintWords Go.Proofs.YteghfiladifjpaaW.PrintLast

theorem toIntS_l0 (x0 : List Int) (hn : x0.length ≤ 1048576) (d : Nat) : ∀ (k i : Nat), i + d = x0.length → d < k → laws_toIntS.l0 k x0 ((x0.take i).map (fun x => x) ++ List.replicate (x0.length - i) 0) (i : Int) = some (x0.map fun x => x) := by
  induction d with
  | zero =>
    intro k i hd hk
    obtain ⟨k, rfl⟩ : ∃ m, k = m + 1 := ⟨k - 1, by omega⟩
    obtain rfl : i = x0.length := by omega
    simp only [laws_toIntS.l0]
    rw [if_neg (by omega)]
    simp
  | succ d ih =>
    intro k i hd hk
    obtain ⟨k, rfl⟩ : ∃ m, k = m + 1 := ⟨k - 1, by omega⟩
    have hr := ih k (i + 1) (by omega) (by omega)
    have e : ((x0.take i).map (fun x => x) ++ List.replicate (x0.length - i) 0).set (i : Int).toNat (rd x0 (i : Int)) = (x0.take (i + 1)).map (fun x => x) ++ List.replicate (x0.length - (i + 1)) 0 := Base.fill_step (fun x => x) 0 0 x0 i (by omega)
    simp only [laws_toIntS.l0]
    rw [if_pos (by omega), if_pos (by omega), if_pos (by simp; omega), Base.wrap_in (by omega) (by omega), e, show ((i : Int) + 1) = ((i + 1 : Nat) : Int) by omega]
    exact hr
theorem toIntS_eq (x0 : List Int) (hn : x0.length ≤ 1048576) (k : Nat) (hk : x0.length < k) : laws_toIntS.f k x0 = some x0 := by
  unfold laws_toIntS.f
  rw [if_pos (by omega), if_pos (by omega)]
  have h := toIntS_l0 x0 hn x0.length k 0 (by omega) hk
  simpa using h
theorem eqIntS_l0 (x : List Int) (hn : x.length ≤ 1048576) (d : Nat) : ∀ (k i : Nat), i + d = x.length → d < k → laws_eqIntS.l0 k x x (i : Int) = some true := by
  induction d with
  | zero =>
    intro k i hd hk
    obtain ⟨k, rfl⟩ : ∃ m, k = m + 1 := ⟨k - 1, by omega⟩
    simp only [laws_eqIntS.l0]
    rw [if_neg (by omega)]
  | succ d ih =>
    intro k i hd hk
    obtain ⟨k, rfl⟩ : ∃ m, k = m + 1 := ⟨k - 1, by omega⟩
    have hr := ih k (i + 1) (by omega) (by omega)
    simp only [laws_eqIntS.l0]
    rw [if_pos (by omega), if_pos (by omega), if_pos (by omega), Base.wrap_in (by omega) (by omega), show ((i : Int) + 1) = ((i + 1 : Nat) : Int) by omega]
    simpa using hr
theorem eqIntS_eq (x : List Int) (hn : x.length ≤ 1048576) (k : Nat) (hk : x.length < k) : laws_eqIntS.f k x x = some true := by
  unfold laws_eqIntS.f
  rw [if_pos rfl]
  exact eqIntS_l0 x hn x.length k 0 (by omega) hk

theorem count_l0 (x : List Int) (c : Int) (hn : x.length ≤ 1048576) (d : Nat) : ∀ (k i : Nat) (n : Int), i + d = x.length → d < k → 0 ≤ n → n ≤ i →
    ∃ r, spec_CountClass.l0 k x c n (i : Int) = some r ∧ impl_CountClass.l0 k c n x (x.length : Int) (i : Int) = some r := by
  induction d with
  | zero =>
    intro k i n hd hk h0 h1
    obtain ⟨k, rfl⟩ : ∃ m, k = m + 1 := ⟨k - 1, by omega⟩
    refine ⟨n, ?_, ?_⟩
    · simp only [spec_CountClass.l0]
      rw [if_neg (by omega)]
    · simp only [impl_CountClass.l0]
      rw [if_neg (by omega)]
  | succ d ih =>
    intro k i n hd hk h0 h1
    obtain ⟨k, rfl⟩ : ∃ m, k = m + 1 := ⟨k - 1, by omega⟩
    by_cases h : rd x (i : Int) = c
    · obtain ⟨r, e1, e2⟩ := ih k (i + 1) (n + 1) (by omega) (by omega) (by omega) (by omega)
      refine ⟨r, ?_, ?_⟩
      · simp only [spec_CountClass.l0]
        rw [if_pos (by omega), if_pos (by omega), if_pos h, Base.wrap_in (x := (i : Int) + 1) (by omega) (by omega), Base.wrap_in (x := n + 1) (by omega) (by omega), show ((i : Int) + 1) = ((i + 1 : Nat) : Int) by omega]
        exact e1
      · simp only [impl_CountClass.l0]
        rw [if_pos (by omega), if_pos (by omega), if_pos (by omega), if_pos h, Base.wrap_in (x := (i : Int) + 1) (by omega) (by omega), Base.wrap_in (x := n + 1) (by omega) (by omega), show ((i : Int) + 1) = ((i + 1 : Nat) : Int) by omega]
        exact e2
    · obtain ⟨r, e1, e2⟩ := ih k (i + 1) n (by omega) (by omega) (by omega) (by omega)
      refine ⟨r, ?_, ?_⟩
      · simp only [spec_CountClass.l0]
        rw [if_pos (by omega), if_pos (by omega), if_neg h, Base.wrap_in (x := (i : Int) + 1) (by omega) (by omega), show ((i : Int) + 1) = ((i + 1 : Nat) : Int) by omega]
        exact e1
      · simp only [impl_CountClass.l0]
        rw [if_pos (by omega), if_pos (by omega), if_pos (by omega), if_neg h, Base.wrap_in (x := (i : Int) + 1) (by omega) (by omega), show ((i : Int) + 1) = ((i + 1 : Nat) : Int) by omega]
        exact e2
theorem FnExactCountClass : laws_FnExactCountClass.Pure := by
  intro l c _ _ _ _
  refine ⟨l.length + 1, ?_⟩
  unfold laws_FnExactCountClass.f
  by_cases h : (l.length : Int) > 1048576
  · rw [if_pos h]
  · rw [if_neg h]
    obtain ⟨r, h1, h2⟩ := count_l0 l c (by omega) l.length (l.length + 1) 0 0 (by omega) (by omega) (by omega) (by omega)
    have h1' : spec_CountClass.f (l.length + 1) l c = some r := h1
    have h2' : impl_CountClass.f (l.length + 1) l c = some r := h2
    simp only [toIntS_eq l (by omega) (l.length + 1) (by omega), eqIntS_eq l (by omega) (l.length + 1) (by omega), Option.bind_some, h1', h2', if_true]

end Go.Proofs.Yteghfiladifjpaa.Pure
