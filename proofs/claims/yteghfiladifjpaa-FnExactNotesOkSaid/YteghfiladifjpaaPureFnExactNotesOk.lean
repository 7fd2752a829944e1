/- The pure half of FnExactNotesOk: the printed Lean functions of the program and of the reference agree, so the law's function answers true. Conditions: those of the statement, spelled at the theorem. -/
import Derived.Test.YteghfiladifjpaaPFnExactNotesOkx
import Derived.Test.YteghfiladifjpaaBase
namespace Go.Proofs.Yteghfiladifjpaa.Pure
open Go.RowKit Go.Proofs.Yteghfiladifjpaa.PFnExactNotesOk Go.Proofs.YteghfiladifjpaaW.PrintWords Go.Proofs.YteghfiladifjpaaW.PrintLast

theorem spec_in_eq (a b c : Int) : spec_l01In.f a b c = some (decide (b ≤ a ∧ a ≤ c)) := by
  unfold spec_l01In.f
  by_cases h : b ≤ a <;> simp [h]
theorem impl_in_eq (a b c : Int) : impl_in.f a b c = some (decide (b ≤ a ∧ a ≤ c)) := by
  unfold impl_in.f
  by_cases h : b ≤ a <;> simp [h]

theorem spec_tick_eq (a : Int) : spec_l02Tick.f a = some (decide (0 ≤ a ∧ a ≤ 1000000000)) := by
  unfold spec_l02Tick.f
  simp only [spec_in_eq, Option.bind_some]
theorem impl_tick_eq (a : Int) : impl_isTick.f a = some (decide (0 ≤ a ∧ a ≤ 1000000000)) := by
  unfold impl_isTick.f
  simp only [impl_in_eq, Option.bind_some]

theorem spec_count_eq (a : Int) : spec_l05Count.f a = some (decide (0 ≤ a ∧ a ≤ 1000)) := by
  unfold spec_l05Count.f
  simp only [spec_in_eq, Option.bind_some]
theorem impl_count_eq (a : Int) : impl_isCount.f a = some (decide (0 ≤ a ∧ a ≤ 1000)) := by
  unfold impl_isCount.f
  simp only [impl_in_eq, Option.bind_some]

theorem toNoteS_l0 (x0 : List S108) (hn : x0.length ≤ 1048576) (d : Nat) : ∀ (k i : Nat), i + d = x0.length → d < k →
    laws_toNoteS.l0 k x0 ((x0.take i).map (fun x : S108 => (⟨x.f0, x.f1⟩ : S106)) ++ List.replicate (x0.length - i) z106) (i : Int) = some (x0.map (fun x : S108 => (⟨x.f0, x.f1⟩ : S106))) := by
  induction d with
  | zero =>
    intro k i hd hk
    obtain ⟨k, rfl⟩ : ∃ m, k = m + 1 := ⟨k - 1, by omega⟩
    obtain rfl : i = x0.length := by omega
    simp only [laws_toNoteS.l0]
    rw [if_neg (by omega)]
    simp
  | succ d ih =>
    intro k i hd hk
    obtain ⟨k, rfl⟩ : ∃ m, k = m + 1 := ⟨k - 1, by omega⟩
    have hr := ih k (i + 1) (by omega) (by omega)
    have e : ((x0.take i).map (fun x : S108 => (⟨x.f0, x.f1⟩ : S106)) ++ List.replicate (x0.length - i) z106).set (i : Int).toNat (⟨(rd_T108 x0 (i : Int)).f0, (rd_T108 x0 (i : Int)).f1⟩ : S106) = (x0.take (i + 1)).map (fun x : S108 => (⟨x.f0, x.f1⟩ : S106)) ++ List.replicate (x0.length - (i + 1)) z106 :=
      Base.fill_step (fun x : S108 => (⟨x.f0, x.f1⟩ : S106)) z106 z108 x0 i (by omega)
    simp only [laws_toNoteS.l0, laws_toNote.f, Option.bind_some]
    rw [if_pos (by omega), if_pos (by omega), if_pos (by simp; omega), Base.wrap_in (by omega) (by omega), e, show ((i : Int) + 1) = ((i + 1 : Nat) : Int) by omega]
    exact hr
theorem toNoteS_eq (x0 : List S108) (hn : x0.length ≤ 1048576) (k : Nat) (hk : x0.length < k) : laws_toNoteS.f k x0 = some (x0.map (fun x : S108 => (⟨x.f0, x.f1⟩ : S106))) := by
  unfold laws_toNoteS.f
  rw [if_pos (by omega), if_pos (by omega)]
  have h := toNoteS_l0 x0 hn x0.length k 0 (by omega) hk
  simpa using h
theorem eqNoteS_l0 (x : List S106) (hn : x.length ≤ 1048576) (d : Nat) : ∀ (k i : Nat), i + d = x.length → d < k → laws_eqNoteS.l0 k x x (i : Int) = some true := by
  induction d with
  | zero =>
    intro k i hd hk
    obtain ⟨k, rfl⟩ : ∃ m, k = m + 1 := ⟨k - 1, by omega⟩
    simp only [laws_eqNoteS.l0]
    rw [if_neg (by omega)]
  | succ d ih =>
    intro k i hd hk
    obtain ⟨k, rfl⟩ : ∃ m, k = m + 1 := ⟨k - 1, by omega⟩
    have hr := ih k (i + 1) (by omega) (by omega)
    simp only [laws_eqNoteS.l0, laws_eqNote.f]
    rw [if_pos (by omega), if_pos (by omega), if_pos (by omega), Base.wrap_in (by omega) (by omega), show ((i : Int) + 1) = ((i + 1 : Nat) : Int) by omega]
    simpa using hr
theorem eqNoteS_eq (x : List S106) (hn : x.length ≤ 1048576) (k : Nat) (hk : x.length < k) : laws_eqNoteS.f k x x = some true := by
  unfold laws_eqNoteS.f
  rw [if_pos rfl]
  exact eqNoteS_l0 x hn x.length k 0 (by omega) hk
theorem NotesOk_l0 (x : List S106) (hn : x.length ≤ 1048576) (d : Nat) : ∀ (k i : Nat), i + d = x.length → d < k →
    ∃ r, spec_NotesOk.l0 k x (i : Int) = some r ∧ impl_NotesOk.l0 k x x (x.length : Int) (i : Int) = some (r && decide ((x.length : Int) ≤ 200)) := by
  induction d with
  | zero =>
    intro k i hd hk
    obtain ⟨k, rfl⟩ : ∃ m, k = m + 1 := ⟨k - 1, by omega⟩
    simp only [spec_NotesOk.l0, impl_NotesOk.l0]
    rw [if_neg (by omega), if_neg (by omega)]
    exact ⟨true, rfl, by simp⟩
  | succ d ih =>
    intro k i hd hk
    obtain ⟨k, rfl⟩ : ∃ m, k = m + 1 := ⟨k - 1, by omega⟩
    obtain ⟨r, e1, e2⟩ := ih k (i + 1) (by omega) (by omega)
    simp only [spec_NotesOk.l0, impl_NotesOk.l0]
    rw [if_pos (show (i : Int) < (x.length : Int) by omega), if_pos (show (0 : Int) ≤ (i : Int) by omega), Base.wrap_in (x := (i : Int) + 1) (by omega) (by omega), show ((i : Int) + 1) = ((i + 1 : Nat) : Int) by omega, e1, e2]
    simp only [spec_tick_eq, impl_tick_eq, spec_count_eq, impl_count_eq, Option.bind_some]
    by_cases h1 : 0 ≤ (rd_T106 x (i : Int)).f0 ∧ (rd_T106 x (i : Int)).f0 ≤ 1000000000
    · by_cases h2 : 0 ≤ (rd_T106 x (i : Int)).f1 ∧ (rd_T106 x (i : Int)).f1 ≤ 1000
      · by_cases h3 : (i : Int) > 0
        · rw [Base.wrap_in (x := (i : Int) - 1) (by omega) (by omega)]
          simp only [decide_eq_true h1, decide_eq_true h2, if_true, if_pos h3, if_pos (show (0 : Int) ≤ (i : Int) - 1 by omega), if_pos (show (i : Int) - 1 < (x.length : Int) by omega), if_pos (show (i : Int) < (x.length : Int) by omega), if_pos (show (0 : Int) ≤ (i : Int) by omega)]
          by_cases h4 : (rd_T106 x ((i : Int) - 1)).f0 > (rd_T106 x (i : Int)).f0
          · exact ⟨false, by rw [if_pos h4], by rw [if_pos h4]; simp⟩
          · exact ⟨r, by rw [if_neg h4], by rw [if_neg h4]⟩
        · simp only [decide_eq_true h1, decide_eq_true h2, if_true, if_neg h3, if_pos (show (i : Int) < (x.length : Int) by omega), if_pos (show (0 : Int) ≤ (i : Int) by omega)]
          exact ⟨r, rfl, rfl⟩
      · simp only [decide_eq_true h1, decide_eq_false h2, if_true, if_pos (show (i : Int) < (x.length : Int) by omega), if_pos (show (0 : Int) ≤ (i : Int) by omega)]
        exact ⟨false, by simp, by simp⟩
    · simp only [decide_eq_false h1, if_pos (show (i : Int) < (x.length : Int) by omega), if_pos (show (0 : Int) ≤ (i : Int) by omega)]
      exact ⟨false, by simp, by simp⟩
theorem NotesOk_eq (x : List S106) (hn : x.length ≤ 1048576) (k : Nat) (hk : x.length < k) : ∃ r, spec_NotesOk.f k x = some r ∧ impl_NotesOk.f k x = some r := by
  obtain ⟨r, e1, e2⟩ := NotesOk_l0 x hn x.length k 0 (by omega) hk
  unfold spec_NotesOk.f impl_NotesOk.f
  refine ⟨_, ?_, e2⟩
  by_cases h : (x.length : Int) > 200
  · rw [if_pos h]
    simp [show ¬ (x.length : Int) ≤ 200 by omega]
  · rw [if_neg h]
    simpa [show (x.length : Int) ≤ 200 by omega] using e1
theorem FnExactNotesOk (l : List S108) (hl : l.length ≤ maxLen) (_ : ∀ x ∈ l, (Lit.int .i64 x.f0).wf = true ∧ (Lit.int .i64 x.f1).wf = true) : ∃ k, laws_FnExactNotesOk.f k l = some true := by
  unfold maxLen at hl
  refine ⟨l.length + 1, ?_⟩
  unfold laws_FnExactNotesOk.f laws_szNoteS.f
  rw [Base.wrap_in (x := 1048576 - (l.length : Int)) (by omega) (by omega)]
  by_cases h : 1048576 - (l.length : Int) < 0
  · simp [h]
  · have ht := toNoteS_eq l (by omega) (l.length + 1) (by omega)
    generalize hm : l.map (fun x : S108 => (⟨x.f0, x.f1⟩ : S106)) = m at ht
    have hlen : m.length = l.length := by rw [← hm]; simp
    obtain ⟨r, e1, e2⟩ := NotesOk_eq m (by omega) (l.length + 1) (by omega)
    have e3 := eqNoteS_eq m (by omega) (l.length + 1) (by omega)
    simp [h, ht, e1, e2, e3]

end Go.Proofs.Yteghfiladifjpaa.Pure
