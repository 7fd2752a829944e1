/- Sorting samples: the Lean functions of the program and of the reference agree, and sorting twice changes nothing. Conditions: those at each theorem. -/
import Derived.Test.YtbbnlagdahickaaGreatDoorOFnSamplesx14
import Derived.Test.YtbbnlagdahickaaGreatDoorSortS
import Derived.Test.YtbbnlagdahickaaGreatDoorBase
import Derived.Test.YtbbnlagdahickaaGreatDoorText
namespace Go.Proofs.YtbbnlagdahickaaGreatDoor.Pure
open Go.RowKit Go.Proofs.YtbbnlagdahickaaGreatDoor Go.Proofs.YtbbnlagdahickaaGreatDoor.PFnSamples Go.Proofs.YtbbnlagdahickaaGreatDoorW.PrintWords Go.Proofs.YtbbnlagdahickaaGreatDoorW.PrintLast
set_option linter.unusedSimpArgs false
set_option linter.unusedVariables false

theorem spec_Less_l0 (a b : ByteArray) (ha : a.size ≤ maxLen) (d : Nat) : ∀ (k i : Nat), i + d = a.size → i ≤ b.size → 2 * d + 2 < k → spec_l02Less.l0 k a b (i : Int) = some (Op.bytesLess (a.data.toList.drop i) (b.data.toList.drop i)) := by
  unfold maxLen at ha
  have la := data_length a
  have lb := data_length b
  induction d with
  | zero =>
    intro k i hd hb hk
    obtain ⟨k, rfl⟩ : ∃ m, k = m + 1 := ⟨k - 1, by omega⟩
    obtain ⟨k, rfl⟩ : ∃ m, k = m + 1 := ⟨k - 1, by omega⟩
    simp only [spec_l02Less.l0]
    rw [if_neg (by omega)]
    simp only [spec_l02Less.j1]
    rw [Base.less_end _ _ i (by omega) (by omega) (by omega), la, lb]
    simp
  | succ d ih =>
    intro k i hd hb hk
    obtain ⟨k, rfl⟩ : ∃ m, k = m + 1 := ⟨k - 1, by omega⟩
    obtain ⟨k, rfl⟩ : ∃ m, k = m + 1 := ⟨k - 1, by omega⟩
    simp only [spec_l02Less.l0]
    rw [if_pos (by omega)]
    by_cases h : i < b.size
    · have hr := ih k (i + 1) (by omega) (by omega) (by omega)
      simp only [spec_l02Less.j1]
      rw [show decide ((i : Int) < (b.size : Int)) = true from decide_eq_true (by omega), if_pos rfl, if_pos (by omega), if_pos (by omega), if_pos (by omega), Base.wrap_in (by omega) (by omega), show ((i : Int) + 1) = ((i + 1 : Nat) : Int) by omega, hr]
      rw [Base.less_step _ _ i (by omega) (by omega), Base.bt_get a i (by omega), Base.bt_get b i (by omega)]
      generalize a.data.toList[i]'(by omega) = p
      generalize b.data.toList[i]'(by omega) = q
      by_cases e : p = q
      · subst e
        simp [UInt8.lt_iff_toNat_lt]
      · have e' : ¬ ((p.toNat : Int) = (q.toNat : Int)) := fun hh => e (UInt8.toNat_inj.1 (by omega))
        rw [if_neg e']
        simp [e, UInt8.lt_iff_toNat_lt]
    · simp only [spec_l02Less.j1]
      rw [show decide ((i : Int) < (b.size : Int)) = false from decide_eq_false (by omega)]
      rw [Base.less_end _ _ i (by omega) (by omega) (by omega), la, lb]
      simp
theorem spec_Less_eq (a b : ByteArray) (ha : a.size ≤ maxLen) (k : Nat) (hk : 2 * a.size + 2 < k) : spec_l02Less.f k a b = some (Op.bytesLess a.toList b.toList) := by
  unfold spec_l02Less.f
  rw [ByteArray.toList_eq, ByteArray.toList_eq]
  exact spec_Less_l0 a b ha a.size k 0 (by omega) (by omega) hk


open Go.Sort Go.Proofs.YtbbnlagdahickaaGreatDoor.Stable
theorem less_trans : ∀ x y z : List UInt8, Op.bytesLess x y = true → Op.bytesLess y z = true → Op.bytesLess x z = true
  | x, [], _, h, _ => by cases x <;> simp [Op.bytesLess] at h
  | _, _ :: _, [], _, h => by simp [Op.bytesLess] at h
  | [], _ :: _, _ :: _, _, _ => rfl
  | a :: x, b :: y, c :: z, h1, h2 => by
    simp only [Op.bytesLess, Bool.or_eq_true, decide_eq_true_eq, Bool.and_eq_true, beq_iff_eq, UInt8.lt_iff_toNat_lt] at h1 h2 ⊢
    rcases h1 with h1 | ⟨rfl, h1⟩
    · rcases h2 with h2 | ⟨rfl, h2⟩
      · left; omega
      · left; exact h1
    · rcases h2 with h2 | ⟨rfl, h2⟩
      · left; exact h2
      · right; exact ⟨rfl, less_trans x y z h1 h2⟩
/-- A strict order in which neither less means equal. -/
structure STO {κ : Type} (lt : κ → κ → Bool) : Prop where
  irrefl : ∀ x, lt x x = false
  trans : ∀ x y z, lt x y = true → lt y z = true → lt x z = true
  total : ∀ x y, lt x y = false → lt y x = false → x = y
def lexL {κ μ : Type} [DecidableEq κ] (l1 : κ → κ → Bool) (l2 : μ → μ → Bool) (p q : κ × μ) : Bool := if p.1 = q.1 then l2 p.2 q.2 else l1 p.1 q.1
theorem lex_sto {κ μ : Type} [DecidableEq κ] {l1 : κ → κ → Bool} {l2 : μ → μ → Bool} (h1 : STO l1) (h2 : STO l2) : STO (lexL l1 l2) where
  irrefl := fun x => by unfold lexL; rw [if_pos rfl]; exact h2.irrefl _
  trans := by
    rintro ⟨a, b⟩ ⟨c, d⟩ ⟨e, f⟩ g1 g2
    unfold lexL at *
    simp only at g1 g2 ⊢
    by_cases e1 : a = c
    · subst e1
      rw [if_pos rfl] at g1
      by_cases e2 : a = e
      · subst e2
        rw [if_pos rfl] at g2 ⊢
        exact h2.trans _ _ _ g1 g2
      · rw [if_neg e2] at g2 ⊢
        exact g2
    · rw [if_neg e1] at g1
      by_cases e2 : c = e
      · subst e2
        rw [if_neg e1]
        exact g1
      · rw [if_neg e2] at g2
        have e3 : ¬ a = e := by
          rintro rfl
          have := h1.trans _ _ _ g1 g2
          rw [h1.irrefl] at this
          cases this
        rw [if_neg e3]
        exact h1.trans _ _ _ g1 g2
  total := by
    rintro ⟨a, b⟩ ⟨c, d⟩ g1 g2
    unfold lexL at *
    simp only at g1 g2
    by_cases e1 : a = c
    · subst e1
      rw [if_pos rfl] at g1 g2
      rw [h2.total _ _ g1 g2]
    · rw [if_neg e1] at g1
      rw [if_neg (fun e => e1 e.symm)] at g2
      exact absurd (h1.total _ _ g1 g2) e1
theorem sto_swo {κ β : Type} {lt : κ → κ → Bool} (h : STO lt) (f : β → κ) : SWO (fun x y => lt (f x) (f y)) where
  irrefl := fun x => h.irrefl _
  trans := fun x y z => h.trans _ _ _
  ntrans := fun x y z g1 g2 => by
    cases e : lt (f x) (f z) with
    | false => rfl
    | true =>
      cases e2 : lt (f y) (f x) with
      | true =>
        have := h.trans _ _ _ e2 e
        rw [g2] at this
        cases this
      | false =>
        have := h.total _ _ g1 e2
        rw [this, g2] at e
        cases e
theorem bytes_sto : STO Op.bytesLess := ⟨less_irrefl, less_trans, less_total⟩
theorem int_sto : STO (fun a b : Int => decide (a < b)) where
  irrefl := fun x => by simp
  trans := fun x y z g1 g2 => by simp at *; omega
  total := fun x y g1 g2 => by simp at *; omega
def keyS (x : S35) : List UInt8 × List UInt8 × Int := (x.f0.toList, x.f1.toList, x.f3)
/-- The order of samples. -/
def ltS (x y : S35) : Bool := lexL Op.bytesLess (lexL Op.bytesLess fun a b : Int => decide (a < b)) (keyS x) (keyS y)
theorem ltS_swo : SWO ltS := sto_swo (lex_sto bytes_sto (lex_sto bytes_sto int_sto)) keyS
theorem cmpB_zero (a b : ByteArray) : cmpB a b = 0 ↔ a.toList = b.toList := by
  unfold cmpB
  constructor
  · intro h
    by_cases h1 : Op.bytesLess a.toList b.toList = true
    · rw [if_pos h1] at h; omega
    · by_cases h2 : Op.bytesLess b.toList a.toList = true
      · rw [if_neg h1, if_pos h2] at h; omega
      · exact less_total _ _ (by simpa using h1) (by simpa using h2)
  · intro h
    rw [h, less_irrefl, if_neg (by simp), if_neg (by simp)]
theorem cmpB_neg (a b : ByteArray) : decide (cmpB a b < 0) = Op.bytesLess a.toList b.toList := by
  unfold cmpB
  by_cases h1 : Op.bytesLess a.toList b.toList = true
  · rw [if_pos h1, h1]; rfl
  · rw [if_neg h1]
    have h3 : Op.bytesLess a.toList b.toList = false := by simpa using h1
    rw [h3]
    split <;> rfl
theorem ltOf_cf : ltOf cfS = ltS := by
  funext x y
  unfold ltOf cfS ltS lexL keyS
  simp only
  by_cases e0 : x.f0.toList = y.f0.toList
  · rw [if_pos ((cmpB_zero _ _).2 e0), if_pos e0]
    by_cases e1 : x.f1.toList = y.f1.toList
    · rw [if_pos ((cmpB_zero _ _).2 e1), if_pos e1]
      unfold cmpI
      by_cases h : x.f3 < y.f3
      · rw [if_pos h]
        simp [h]
      · rw [if_neg h]
        split <;> simp [h]
    · rw [if_neg (fun h => e1 ((cmpB_zero _ _).1 h)), if_neg e1]
      exact cmpB_neg _ _
  · rw [if_neg (fun h => e0 ((cmpB_zero _ _).1 h)), if_neg e0]
    exact cmpB_neg _ _
theorem impl_sort_eq (l : List S35) : sortedS l = if 300 < l.length then [] else isort ltS l := by
  unfold sortedS
  by_cases h : 300 < l.length
  · rw [if_pos h, if_pos h]
  · rw [if_neg h, if_neg h, ltOf_cf]
    have := stableA_ok ltS_swo l.toArray
    simpa using this
theorem rd_get (l : List S35) (i : Nat) (h : i < l.length) : rd_T35 l (i : Int) = l[i] := by
  unfold rd_T35
  rw [Int.toNat_natCast, List.getD_eq_getElem?_getD, List.getElem?_eq_getElem h]
  rfl
theorem spec_ahead_eq (x y : S35) (h0 : x.f0.size ≤ 100) (h1 : x.f1.size ≤ 100) (k : Nat) (hk : 300 < k) : spec_l02Ahead.f k x.f0 x.f1 x.f2 x.f3 y.f0 y.f1 y.f2 y.f3 = some (ltS x y) := by
  unfold spec_l02Ahead.f ltS lexL keyS
  simp only
  by_cases e0 : x.f0.toList = y.f0.toList
  · rw [if_pos e0, if_pos e0]
    by_cases e1 : x.f1.toList = y.f1.toList
    · rw [if_pos e1, if_pos e1]
    · rw [if_neg e1, if_neg e1, spec_Less_eq _ _ (by unfold maxLen; omega) k (by omega)]
      rfl
  · rw [if_neg e0, if_neg e0, spec_Less_eq _ _ (by unfold maxLen; omega) k (by omega)]
    rfl
/-- Names that are short enough to be looked at. -/
def Small (l : List S35) : Prop := ∀ x ∈ l, x.f0.size ≤ 100 ∧ x.f1.size ≤ 100
theorem sort_put (l : List S35) (i : Nat) (out : List S35) (ho : out.length ≤ 1000) (d : Nat) : ∀ (k j : Nat) (next : List S35), j + d = out.length → next.length ≤ 2000 + j →
    spec_SortSamples.l1 (k + d + 1) l out (i : Int) next true (j : Int) = spec_SortSamples.l0 k l (next ++ out.drop j) (wrap64 ((i : Int) + 1)) := by
  induction d with
  | zero =>
    intro k j next h1 h2
    rw [spec_SortSamples.l1, if_neg (by omega), if_pos rfl, List.drop_of_length_le (by omega), List.append_nil]
  | succ d ih =>
    intro k j next h1 h2
    have hj : j < out.length := by omega
    have e1 : wrap64 ((j : Int) + 1) = ((j + 1 : Nat) : Int) := by rw [Base.wrap_in (by omega) (by omega)]; omega
    rw [show k + (d + 1) + 1 = (k + d + 1) + 1 by omega, spec_SortSamples.l1, if_pos (by omega), if_pos rfl, if_pos (by omega), if_pos (by omega), rd_get out j hj, e1, ih k (j + 1) _ (by omega) (by simp; omega)]
    rw [List.drop_eq_getElem_cons hj, List.append_assoc]
    rfl
theorem sort_ins (l : List S35) (hs : Small l) (i : Nat) (hi : i < l.length) (out : List S35) (ho : out.length ≤ 1000) (d : Nat) : ∀ (k j : Nat) (next : List S35), 300 < k → j + d = out.length → next.length ≤ 1000 + j →
    spec_SortSamples.l1 (k + d + 1) l out (i : Int) next false (j : Int) = spec_SortSamples.l0 k l (next ++ ins ltS l[i] (out.drop j)) (wrap64 ((i : Int) + 1)) := by
  have hsm := hs l[i] (List.getElem_mem hi)
  induction d with
  | zero =>
    intro k j next hk h1 h2
    rw [spec_SortSamples.l1, if_neg (by omega), if_neg (by simp), if_pos (by omega), if_pos (by omega), if_pos (by omega), rd_get l i hi, List.drop_of_length_le (by omega)]
    rfl
  | succ d ih =>
    intro k j next hk h1 h2
    have hj : j < out.length := by omega
    have e1 : wrap64 ((j : Int) + 1) = ((j + 1 : Nat) : Int) := by rw [Base.wrap_in (by omega) (by omega)]; omega
    rw [show k + (d + 1) + 1 = (k + d + 1) + 1 by omega, spec_SortSamples.l1, if_pos (by omega), if_neg (by simp), if_pos (by omega), if_pos (by omega), if_pos (by omega), rd_get l i hi, rd_get out j hj, spec_ahead_eq l[i] out[j] hsm.1 hsm.2 (k + d + 1) (by omega)]
    simp only [Option.bind_some]
    rw [List.drop_eq_getElem_cons hj, ins]
    by_cases c : ltS l[i] out[j] = true
    · rw [if_pos c, if_pos c, if_pos (by omega), if_pos (by simp only [List.length_append, List.length_cons, List.length_nil]; omega), e1, sort_put l i out ho d k (j + 1) _ (by omega) (by simp only [List.length_append, List.length_cons, List.length_nil]; omega)]
      rw [List.append_assoc, List.append_assoc]
      rfl
    · rw [if_neg c, if_neg c, if_pos (by omega), e1, ih k (j + 1) _ hk (by omega) (by simp only [List.length_append, List.length_cons, List.length_nil]; omega)]
      rw [List.append_assoc]
      rfl
theorem sort_l0 (l : List S35) (hs : Small l) (hl : l.length ≤ 300) (d : Nat) : ∀ (k i : Nat), i + d = l.length → 400 * d + 400 < k →
    spec_SortSamples.l0 k l (isort ltS (l.take i)) (i : Int) = some (isort ltS l) := by
  induction d with
  | zero =>
    intro k i h1 hk
    obtain ⟨k, rfl⟩ : ∃ m, k = m + 1 := ⟨k - 1, by omega⟩
    rw [spec_SortSamples.l0, if_neg (by omega), List.take_of_length_le (by omega)]
  | succ d ih =>
    intro k i h1 hk
    have hi : i < l.length := by omega
    have hlen : (isort ltS (l.take i)).length = i := by rw [isort_length, List.length_take]; omega
    obtain ⟨k, rfl⟩ : ∃ m, k = m + i + 1 + 1 := ⟨k - i - 2, by omega⟩
    have e1 : wrap64 ((i : Int) + 1) = ((i + 1 : Nat) : Int) := by rw [Base.wrap_in (by omega) (by omega)]; omega
    have h := sort_ins l hs i hi (isort ltS (l.take i)) (by omega) i k 0 [] (by omega) (by omega) (by simp)
    rw [spec_SortSamples.l0, if_pos (by omega)]
    refine (show _ = _ from h).trans ?_
    rw [List.nil_append, List.drop_zero, e1, ← isort_snoc, show l.take i ++ [l[i]] = l.take (i + 1) from (List.take_succ_eq_append_getElem hi).symm]
    exact ih k (i + 1) (by omega) (by omega)
theorem spec_sort_eq (l : List S35) (hs : Small l) (k : Nat) (hk : 130000 < k) : spec_SortSamples.f k l = some (if 300 < l.length then [] else isort ltS l) := by
  unfold spec_SortSamples.f
  by_cases h : 300 < l.length
  · rw [if_pos (by omega), if_pos h]
  · rw [if_neg (by omega), if_neg h]
    have := sort_l0 l hs (by omega) l.length k 0 (by omega) (by omega)
    simpa [isort] using this
theorem same_l0 (a : List S35) (ha : a.length ≤ 100000) (d : Nat) : ∀ (k i : Nat), i + d = a.length → d < k → laws_sameSamples.l0 k a a (i : Int) = some true := by
  induction d with
  | zero =>
    intro k i h1 hk
    obtain ⟨k, rfl⟩ : ∃ m, k = m + 1 := ⟨k - 1, by omega⟩
    rw [laws_sameSamples.l0, if_neg (by omega)]
  | succ d ih =>
    intro k i h1 hk
    obtain ⟨k, rfl⟩ : ∃ m, k = m + 1 := ⟨k - 1, by omega⟩
    have e1 : wrap64 ((i : Int) + 1) = ((i + 1 : Nat) : Int) := by rw [Base.wrap_in (by omega) (by omega)]; omega
    rw [laws_sameSamples.l0, if_pos (by omega), if_pos (by omega), if_pos (by omega), if_neg (by simp), e1, ih k (i + 1) (by omega) (by omega)]
theorem same_eq (a : List S35) (ha : a.length ≤ 100000) (k : Nat) (hk : a.length < k) : laws_sameSamples.f k a a = some true := by
  unfold laws_sameSamples.f
  rw [if_pos rfl]
  exact same_l0 a ha a.length k 0 (by omega) hk
theorem sameI_l0 (a : List Int) (ha : a.length ≤ 100000) (d : Nat) : ∀ (k i : Nat), i + d = a.length → d < k → laws_same.l0 k a a (i : Int) = some true := by
  induction d with
  | zero =>
    intro k i h1 hk
    obtain ⟨k, rfl⟩ : ∃ m, k = m + 1 := ⟨k - 1, by omega⟩
    rw [laws_same.l0, if_neg (by omega)]
  | succ d ih =>
    intro k i h1 hk
    obtain ⟨k, rfl⟩ : ∃ m, k = m + 1 := ⟨k - 1, by omega⟩
    have e1 : wrap64 ((i : Int) + 1) = ((i + 1 : Nat) : Int) := by rw [Base.wrap_in (by omega) (by omega)]; omega
    rw [laws_same.l0, if_pos (by omega), if_pos (by omega), if_pos (by omega), if_pos rfl, e1, ih k (i + 1) (by omega) (by omega)]
theorem sameI_eq (a : List Int) (ha : a.length ≤ 100000) (k : Nat) (hk : a.length < k) : laws_same.f k a a = some true := by
  unfold laws_same.f
  rw [if_pos rfl]
  exact sameI_l0 a ha a.length k 0 (by omega) hk

end Go.Proofs.YtbbnlagdahickaaGreatDoor.Pure
