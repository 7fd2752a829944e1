/- The stable sort of the library, in plain Lean: insertion sort of blocks of twenty and in-place merges give the list with each element behind what is not greater and stood ahead. Condition: the comparison is a strict weak order. -/
import Derived.Sort.Statements
import Derived.Sort.Lot0
namespace Go.Proofs.YtbbnlagdahickaaGreatDoor.Stable
open Go.Sort
set_option linter.unusedVariables false
set_option linter.unusedSimpArgs false
variable {α : Type} {lt : α → α → Bool}

/-! ### Merging and inserting, on lists -/
/-- Two lists merged; of equals the left one's first. -/
def mg (lt : α → α → Bool) : List α → List α → List α
  | [], ys => ys
  | x :: xs, [] => x :: xs
  | x :: xs, y :: ys => if lt y x = true then y :: mg lt (x :: xs) ys else x :: mg lt xs (y :: ys)
  termination_by xs ys => xs.length + ys.length
theorem mg_nil (xs : List α) : mg lt xs [] = xs := by cases xs <;> simp [mg]
theorem mg_cons (x y : α) (xs ys : List α) : mg lt (x :: xs) (y :: ys) = if lt y x = true then y :: mg lt (x :: xs) ys else x :: mg lt xs (y :: ys) := by rw [mg]
theorem mg_split (n : Nat) : ∀ A1 B1 A2 B2 : List α, A1.length + B1.length ≤ n → (∀ a ∈ A1, ∀ b ∈ B2, lt b a = false) → (∀ b ∈ B1, ∀ a ∈ A2, lt b a = true) → mg lt (A1 ++ A2) (B1 ++ B2) = mg lt A1 B1 ++ mg lt A2 B2 := by
  induction n with
  | zero =>
    intro A1 B1 A2 B2 hn _ _
    obtain rfl : A1 = [] := List.length_eq_zero_iff.1 (by omega)
    obtain rfl : B1 = [] := List.length_eq_zero_iff.1 (by omega)
    simp [mg]
  | succ n ih =>
    intro A1 B1 A2 B2 hn h1 h2
    match A1, B1 with
    | [], [] => simp [mg]
    | [], b :: B1 =>
      match A2 with
      | [] => simp [mg]
      | a :: A2 =>
        have h := h2 b List.mem_cons_self a List.mem_cons_self
        have := ih [] B1 (a :: A2) B2 (by simp at hn ⊢; omega) (by simp) (fun x hx => h2 x (List.mem_cons_of_mem _ hx))
        simp only [List.nil_append, List.cons_append] at this ⊢
        rw [mg_cons, if_pos h, this]
        simp [mg]
    | a :: A1, [] =>
      match B2 with
      | [] => simp [mg_nil]
      | b :: B2 =>
        have h := h1 a List.mem_cons_self b List.mem_cons_self
        have := ih A1 [] A2 (b :: B2) (by simp at hn ⊢; omega) (fun x hx => h1 x (List.mem_cons_of_mem _ hx)) (by simp)
        simp only [List.nil_append, List.cons_append, mg_nil] at this ⊢
        rw [mg_cons, if_neg (by rw [h]; simp), this]
    | a :: A1, b :: B1 =>
      simp only [List.cons_append]
      rw [mg_cons, mg_cons]
      by_cases h : lt b a = true
      · rw [if_pos h, if_pos h]
        have := ih (a :: A1) B1 A2 B2 (by simp at hn ⊢; omega) h1 (fun x hx => h2 x (List.mem_cons_of_mem _ hx))
        simp only [List.cons_append] at this ⊢
        rw [this]
      · rw [if_neg h, if_neg h]
        have := ih A1 (b :: B1) A2 B2 (by simp at hn ⊢; omega) (fun x hx => h1 x (List.mem_cons_of_mem _ hx)) h2
        simp only [List.cons_append] at this ⊢
        rw [this]
/-- x laid into a list, behind its equals. -/
def ins (lt : α → α → Bool) (x : α) : List α → List α
  | [] => [x]
  | y :: ys => if lt x y = true then x :: y :: ys else y :: ins lt x ys
/-- A list sorted, equals in the order in which they stood. -/
def isort (lt : α → α → Bool) (l : List α) : List α := l.foldl (fun acc x => ins lt x acc) []
theorem isort_snoc (l : List α) (x : α) : isort lt (l ++ [x]) = ins lt x (isort lt l) := by simp [isort]
theorem mg_ins (hS : SWO lt) (x : α) (n : Nat) : ∀ A B : List α, A.length + B.length ≤ n → mg lt A (ins lt x B) = ins lt x (mg lt A B) := by
  induction n with
  | zero =>
    intro A B hn
    obtain rfl : A = [] := List.length_eq_zero_iff.1 (by omega)
    obtain rfl : B = [] := List.length_eq_zero_iff.1 (by omega)
    simp [mg, ins]
  | succ n ih =>
    intro A B hn
    match A, B with
    | [], B => simp [mg]
    | a :: A, [] =>
      have := ih A [] (by simp at hn ⊢; omega)
      simp only [ins, mg_nil] at this ⊢
      rw [mg_cons]
      by_cases h : lt x a = true
      · rw [if_pos h, if_pos h, mg_nil]
      · rw [if_neg h, if_neg h, this]
    | a :: A, b :: B =>
      have i1 := ih A (b :: B) (by simp at hn ⊢; omega)
      have i2 := ih (a :: A) B (by simp at hn ⊢; omega)
      rw [ins] at i1 ⊢
      by_cases c : lt x b = true
      · rw [if_pos c] at i1 ⊢
        rw [mg_cons, mg_cons]
        by_cases e : lt b a = true
        · rw [if_pos e, if_pos (hS.trans x b a c e), ins, if_pos c]
        · rw [if_neg e]
          by_cases f : lt x a = true
          · rw [if_pos f, ins, if_pos f]
          · rw [if_neg f, i1, ins, if_neg f]
      · rw [if_neg c] at i1 ⊢
        rw [mg_cons, mg_cons]
        by_cases e : lt b a = true
        · rw [if_pos e, if_pos e, i2, ins, if_neg c]
        · rw [if_neg e, if_neg e, i1, ins, if_neg (by
            have := hS.ntrans x b a (by simpa using c) (by simpa using e)
            rw [this]; simp)]
/-- Two sorted parts merged: the whole, sorted. -/
theorem mg_isort (hS : SWO lt) (A : List α) : ∀ B : List α, mg lt (isort lt A) (isort lt B) = isort lt (A ++ B) := by
  intro B
  generalize hn : B.length = n
  induction n generalizing B with
  | zero =>
    obtain rfl := List.length_eq_zero_iff.1 hn
    simp [isort, mg_nil]
  | succ n ih =>
    obtain ⟨B', x, rfl⟩ : ∃ B' x, B = B' ++ [x] := by
      rcases List.eq_nil_or_concat B with h | ⟨B', x, h⟩
      · rw [h] at hn; simp at hn
      · exact ⟨B', x, by simpa using h⟩
    rw [isort_snoc, mg_ins hS x _ _ _ (Nat.le_refl _), ih B' (by simpa using hn), ← List.append_assoc, isort_snoc]
/-- Ascending. -/
def Asc (lt : α → α → Bool) (l : List α) : Prop := l.Pairwise fun x y => lt y x = false
theorem mem_ins {x z : α} : ∀ {l : List α}, z ∈ ins lt x l → z = x ∨ z ∈ l
  | [], h => by simpa [ins] using h
  | y :: ys, h => by
    rw [ins] at h
    by_cases c : lt x y = true
    · rw [if_pos c] at h
      simpa using h
    · rw [if_neg c] at h
      rcases List.mem_cons.1 h with rfl | h
      · exact .inr List.mem_cons_self
      · rcases mem_ins h with h | h
        · exact .inl h
        · exact .inr (List.mem_cons_of_mem _ h)
theorem SWO.asym (hS : SWO lt) {x y : α} (h : lt x y = true) : lt y x = false := by
  cases e : lt y x with
  | false => rfl
  | true =>
    have := hS.trans x y x h e
    rw [hS.irrefl] at this
    cases this
theorem ins_asc (hS : SWO lt) (x : α) : ∀ l : List α, Asc lt l → Asc lt (ins lt x l)
  | [], _ => by simp [ins, Asc]
  | y :: ys, h => by
    obtain ⟨h1, h2⟩ := List.pairwise_cons.1 h
    rw [ins]
    by_cases c : lt x y = true
    · rw [if_pos c]
      refine List.pairwise_cons.2 ⟨fun z hz => ?_, h⟩
      rcases List.mem_cons.1 hz with rfl | hz
      · exact SWO.asym hS c
      · exact hS.ntrans z y x (h1 z hz) (SWO.asym hS c)
    · rw [if_neg c]
      refine List.pairwise_cons.2 ⟨fun z hz => ?_, ins_asc hS x ys h2⟩
      rcases mem_ins hz with rfl | hz
      · simpa using c
      · exact h1 z hz
theorem isort_asc (hS : SWO lt) (l : List α) : Asc lt (isort lt l) := by
  generalize hn : l.length = n
  induction n generalizing l with
  | zero =>
    obtain rfl := List.length_eq_zero_iff.1 hn
    simp [isort, Asc]
  | succ n ih =>
    obtain ⟨B', x, rfl⟩ : ∃ B' x, l = B' ++ [x] := by
      rcases List.eq_nil_or_concat l with h | ⟨B', x, h⟩
      · rw [h] at hn; simp at hn
      · exact ⟨B', x, by simpa using h⟩
    rw [isort_snoc]
    exact ins_asc hS x _ (ih B' (by simpa using hn))
theorem ins_last (x : α) : ∀ l : List α, (∀ y ∈ l, lt x y = false) → ins lt x l = l ++ [x]
  | [], _ => rfl
  | y :: ys, h => by
    rw [ins, if_neg (by rw [h y List.mem_cons_self]; simp), ins_last x ys fun z hz => h z (List.mem_cons_of_mem _ hz)]
    rfl
theorem ins_snoc {x y : α} (h : lt x y = true) : ∀ l : List α, ins lt x (l ++ [y]) = ins lt x l ++ [y]
  | [] => by simp [ins, h]
  | z :: zs => by
    rw [List.cons_append, ins, ins]
    by_cases c : lt x z = true
    · rw [if_pos c, if_pos c]; rfl
    · rw [if_neg c, if_neg c, ins_snoc h zs]; rfl
/-- A sorted list stays. -/
theorem isort_of_asc (l : List α) (h : Asc lt l) : isort lt l = l := by
  generalize hn : l.length = n
  induction n generalizing l with
  | zero =>
    obtain rfl := List.length_eq_zero_iff.1 hn
    rfl
  | succ n ih =>
    obtain ⟨B', x, rfl⟩ : ∃ B' x, l = B' ++ [x] := by
      rcases List.eq_nil_or_concat l with h | ⟨B', x, h⟩
      · rw [h] at hn; simp at hn
      · exact ⟨B', x, by simpa using h⟩
    obtain ⟨h1, _, h3⟩ := List.pairwise_append.1 h
    rw [isort_snoc, ih B' h1 (by simpa using hn), ins_last x _ fun y hy => h3 y hy x (by simp)]
theorem isort_idem (hS : SWO lt) (l : List α) : isort lt (isort lt l) = isort lt l := isort_of_asc _ (isort_asc hS l)
theorem ins_length (x : α) : ∀ l : List α, (ins lt x l).length = l.length + 1
  | [] => rfl
  | y :: ys => by
    rw [ins]
    split
    · rfl
    · rw [List.length_cons, ins_length x ys]; rfl
theorem isort_length (l : List α) : (isort lt l).length = l.length := by
  generalize hn : l.length = n
  induction n generalizing l with
  | zero =>
    obtain rfl := List.length_eq_zero_iff.1 hn
    rfl
  | succ n ih =>
    obtain ⟨B', x, rfl⟩ : ∃ B' x, l = B' ++ [x] := by
      rcases List.eq_nil_or_concat l with h | ⟨B', x, h⟩
      · rw [h] at hn; simp at hn
      · exact ⟨B', x, by simpa using h⟩
    rw [isort_snoc, ins_length, ih B' (by simpa using hn)]
theorem mem_isort {z : α} (l : List α) (h : z ∈ isort lt l) : z ∈ l := by
  generalize hn : l.length = n
  induction n generalizing l with
  | zero =>
    obtain rfl := List.length_eq_zero_iff.1 hn
    simp [isort] at h
  | succ n ih =>
    obtain ⟨B', x, rfl⟩ : ∃ B' x, l = B' ++ [x] := by
      rcases List.eq_nil_or_concat l with h | ⟨B', x, h⟩
      · rw [h] at hn; simp at hn
      · exact ⟨B', x, by simpa using h⟩
    rw [isort_snoc] at h
    rcases mem_ins h with rfl | h
    · simp
    · exact List.mem_append_left _ (ih B' h (by simpa using hn))

/-! ### A stretch of an array -/
/-- What stands at the places a, .., b - 1. -/
def seg [Inhabited α] (d : Array α) (a b : Nat) : List α := (List.range' a (b - a)).map fun t => d[t]!
theorem seg_length [Inhabited α] (d : Array α) (a b : Nat) : (seg d a b).length = b - a := by simp [seg]
theorem seg_nil [Inhabited α] (d : Array α) {a b : Nat} (h : b ≤ a) : seg d a b = [] := by
  simp [seg, Nat.sub_eq_zero_of_le h]
theorem seg_split [Inhabited α] (d : Array α) {a m b : Nat} (h1 : a ≤ m) (h2 : m ≤ b) : seg d a b = seg d a m ++ seg d m b := by
  obtain ⟨p, rfl⟩ : ∃ p, m = a + p := ⟨m - a, by omega⟩
  obtain ⟨q, rfl⟩ : ∃ q, b = a + p + q := ⟨b - (a + p), by omega⟩
  unfold seg
  rw [show a + p + q - a = p + q by omega, show a + p - a = p by omega, show a + p + q - (a + p) = q by omega, ← List.map_append, List.range'_append_1]
theorem seg_shift [Inhabited α] (d e : Array α) (a c n : Nat) (h : ∀ t, t < n → d[a + t]! = e[c + t]!) : seg d a (a + n) = seg e c (c + n) := by
  unfold seg
  rw [show a + n - a = n by omega, show c + n - c = n by omega]
  apply List.ext_getElem
  · simp
  · intro t h1 h2
    simp only [List.getElem_map, List.getElem_range', Nat.one_mul]
    exact h t (by simpa using h1)
theorem seg_congr [Inhabited α] (d e : Array α) (a b : Nat) (h : ∀ t, a ≤ t → t < b → d[t]! = e[t]!) : seg d a b = seg e a b := by
  by_cases hab : a ≤ b
  · obtain ⟨n, rfl⟩ : ∃ n, b = a + n := ⟨b - a, by omega⟩
    exact seg_shift d e a a n fun t ht => h _ (by omega) (by omega)
  · rw [seg_nil _ (by omega), seg_nil _ (by omega)]
theorem seg_one [Inhabited α] (d : Array α) (a : Nat) : seg d a (a + 1) = [d[a]!] := by simp [seg]
theorem seg_mem [Inhabited α] (d : Array α) {a b : Nat} {z : α} (h : z ∈ seg d a b) : ∃ t, a ≤ t ∧ t < b ∧ d[t]! = z := by
  obtain ⟨t, ht, rfl⟩ := List.mem_map.1 h
  rw [List.mem_range'_1] at ht
  exact ⟨t, ht.1, by omega, rfl⟩
theorem seg_all [Inhabited α] (d : Array α) : seg d 0 d.size = d.toList := by
  apply List.ext_getElem
  · simp [seg]
  · intro t h1 h2
    have : t < d.size := by simpa using h2
    simp [seg, getElem!_pos d t this]
theorem asc_seg [Inhabited α] (d : Array α) {a b : Nat} (h : Asc lt (seg d a b)) (s t : Nat) (h1 : a ≤ s) (h2 : s < t) (h3 : t < b) : lt d[t]! d[s]! = false := by
  have e := List.pairwise_iff_getElem.1 h (s - a) (t - a) (by rw [seg_length]; omega) (by rw [seg_length]; omega) (by omega)
  simpa [seg, show a + (s - a) = s by omega, show a + (t - a) = t by omega] using e
theorem seg_asc [Inhabited α] (d : Array α) {a b : Nat} (h : ∀ s t, a ≤ s → s < t → t < b → lt d[t]! d[s]! = false) : Asc lt (seg d a b) := by
  refine List.pairwise_iff_getElem.2 fun s t hs ht hst => ?_
  rw [seg_length] at hs ht
  simpa [seg] using h (a + s) (a + t) (by omega) (by omega) (by omega)
theorem swp_at [Inhabited α] (d : Array α) {i j : Nat} (hi : i < d.size) (hj : j < d.size) (k : Nat) : (swp d i j)[k]! = if k = j then d[i]! else if k = i then d[j]! else d[k]! := by
  unfold swp
  simp only [getElem!_def, Array.getElem?_setIfInBounds, Array.size_setIfInBounds]
  by_cases h1 : k = j
  · subst h1; simp [hj]
  · by_cases h2 : k = i
    · subst h2; simp [hi, Ne.symm h1, h1]
    · simp [Ne.symm h1, Ne.symm h2, h1, h2]

/-! ### insertionSort is stable -/
theorem insInner_ok [Inhabited α] (hS : SWO lt) (a : Nat) : ∀ (j : Nat) (d : Array α), a ≤ j → j < d.size → Asc lt (seg d a j) →
    (insInner lt a j d).size = d.size ∧ (∀ t, t < a ∨ j < t → (insInner lt a j d)[t]! = d[t]!) ∧ seg (insInner lt a j d) a (j + 1) = ins lt d[j]! (seg d a j)
  | 0, d, h1, h2, h3 => by
    obtain rfl : a = 0 := by omega
    refine ⟨rfl, fun _ _ => rfl, ?_⟩
    rw [seg_nil d (Nat.le_refl _)]
    exact seg_one d 0
  | j + 1, d, h1, h2, h3 => by
    rw [insInner]
    by_cases c : j + 1 > a && lt d[j + 1]! d[j]!
    · rw [if_pos c]
      simp only [Bool.and_eq_true, decide_eq_true_eq] at c
      have hsz := size_swp d (j + 1) j
      have hg := swp_at d (i := j + 1) (j := j) (by omega) (by omega)
      have hseg : seg (swp d (j + 1) j) a j = seg d a j := seg_congr _ _ _ _ fun t _ ht => by rw [hg, if_neg (by omega), if_neg (by omega)]
      have hsp := seg_split d (a := a) (m := j) (b := j + 1) (by omega) (by omega)
      rw [seg_one] at hsp
      have hasc : Asc lt (seg d a j) := by
        rw [hsp] at h3
        exact (List.pairwise_append.1 h3).1
      obtain ⟨i1, i2, i3⟩ := insInner_ok hS a j (swp d (j + 1) j) (by omega) (by omega) (by rw [hseg]; exact hasc)
      refine ⟨by omega, fun t ht => ?_, ?_⟩
      · rw [i2 t (by omega), hg, if_neg (by omega), if_neg (by omega)]
      · rw [seg_split _ (a := a) (m := j + 1) (b := j + 1 + 1) (by omega) (by omega), seg_one, i3, i2 (j + 1) (by omega), hg, hg, if_pos rfl, if_neg (by omega), if_pos rfl, hseg, hsp, ins_snoc c.2]
    · rw [if_neg c]
      refine ⟨rfl, fun _ _ => rfl, ?_⟩
      rw [seg_split d (a := a) (m := j + 1) (b := j + 1 + 1) (by omega) (by omega), seg_one]
      refine (ins_last _ _ fun y hy => ?_).symm
      obtain ⟨t, t1, t2, rfl⟩ := seg_mem d hy
      have cj : lt d[j + 1]! d[j]! = false := by
        simp only [Bool.and_eq_true, decide_eq_true_eq, not_and] at c
        simpa using c (by omega)
      by_cases ht : t = j
      · subst ht; exact cj
      · exact hS.ntrans _ _ _ cj (asc_seg d h3 t j (by omega) (by omega) (by omega))
theorem insOuter_ok [Inhabited α] (hS : SWO lt) (d0 : Array α) (a b : Nat) (hb : b ≤ d0.size) (n : Nat) : ∀ (i : Nat) (d : Array α), b - i ≤ n → a ≤ i → i ≤ b → d.size = d0.size → (∀ t, t < a ∨ i ≤ t → d[t]! = d0[t]!) → seg d a i = isort lt (seg d0 a i) →
    (insOuter lt a b i d).size = d0.size ∧ (∀ t, t < a ∨ b ≤ t → (insOuter lt a b i d)[t]! = d0[t]!) ∧ seg (insOuter lt a b i d) a b = isort lt (seg d0 a b) := by
  induction n with
  | zero =>
    intro i d h1 h2 h3 h4 h5 h6
    obtain rfl : i = b := by omega
    rw [insOuter, if_neg (by omega)]
    exact ⟨h4, h5, h6⟩
  | succ n ih =>
    intro i d h1 h2 h3 h4 h5 h6
    by_cases hib : i < b
    · rw [insOuter, if_pos hib]
      obtain ⟨i1, i2, i3⟩ := insInner_ok hS a i d h2 (by omega) (by rw [h6]; exact isort_asc hS _)
      refine ih (i + 1) _ (by omega) (by omega) (by omega) (by omega) (fun t ht => ?_) ?_
      · rw [i2 t (by omega), h5 t (by omega)]
      · rw [i3, h6, h5 i (by omega), seg_split d0 (a := a) (m := i) (b := i + 1) (by omega) (by omega), seg_one, isort_snoc]
    · obtain rfl : i = b := by omega
      rw [insOuter, if_neg (by omega)]
      exact ⟨h4, h5, h6⟩
theorem insertionSort_ok [Inhabited α] (hS : SWO lt) (d : Array α) (a b : Nat) (hab : a ≤ b) (hb : b ≤ d.size) :
    (insertionSort lt d a b).size = d.size ∧ (∀ t, t < a ∨ b ≤ t → (insertionSort lt d a b)[t]! = d[t]!) ∧ seg (insertionSort lt d a b) a b = isort lt (seg d a b) := by
  unfold insertionSort
  by_cases h : a < b
  · refine insOuter_ok hS d a b hb (b - (a + 1)) (a + 1) d (by omega) (by omega) (by omega) rfl (fun _ _ => rfl) ?_
    rw [seg_one]
    rfl
  · rw [insOuter, if_neg (by omega), seg_nil d (by omega)]
    exact ⟨rfl, fun _ _ => rfl, rfl⟩

/-! ### The loops of the merge -/
/-- The binary search: the first place from which p fails. -/
def bsearch (p : Nat → Bool) (i j : Nat) : Nat := if i < j then (if p ((i + j) / 2) = true then bsearch p ((i + j) / 2 + 1) j else bsearch p i ((i + j) / 2)) else i
  termination_by j - i
theorem bsearch_ok (p : Nat → Bool) (n : Nat) : ∀ i j : Nat, j - i ≤ n → i ≤ j → (∀ s t, i ≤ s → s < t → t < j → p t = true → p s = true) → i ≤ bsearch p i j ∧ bsearch p i j ≤ j ∧ (∀ t, i ≤ t → t < bsearch p i j → p t = true) ∧ (∀ t, bsearch p i j ≤ t → t < j → p t = false) := by
  induction n with
  | zero =>
    intro i j h1 h2 _
    obtain rfl : i = j := by omega
    rw [bsearch, if_neg (by omega)]
    exact ⟨by omega, by omega, fun t _ _ => by omega, fun t _ _ => by omega⟩
  | succ n ih =>
    intro i j h1 h2 hm
    by_cases h : i < j
    · rw [bsearch, if_pos h]
      by_cases c : p ((i + j) / 2) = true
      · rw [if_pos c]
        obtain ⟨a1, a2, a3, a4⟩ := ih ((i + j) / 2 + 1) j (by omega) (by omega) fun s t g1 g2 g3 => hm s t (by omega) g2 g3
        refine ⟨by omega, a2, fun t t1 t2 => ?_, a4⟩
        by_cases g : t ≤ (i + j) / 2
        · by_cases e : t = (i + j) / 2
          · rw [e]; exact c
          · exact hm t ((i + j) / 2) t1 (by omega) (by omega) c
        · exact a3 t (by omega) t2
      · rw [if_neg c]
        obtain ⟨a1, a2, a3, a4⟩ := ih i ((i + j) / 2) (by omega) (by omega) fun s t g1 g2 g3 => hm s t g1 g2 (by omega)
        refine ⟨a1, by omega, a3, fun t t1 t2 => ?_⟩
        by_cases g : t < (i + j) / 2
        · exact a4 t t1 g
        · by_cases e : t = (i + j) / 2
          · rw [e]; simpa using c
          · cases ep : p t with
            | false => rfl
            | true => exact absurd (hm ((i + j) / 2) t (by omega) (by omega) t2 ep) c
    · obtain rfl : i = j := by omega
      rw [bsearch, if_neg (by omega)]
      exact ⟨by omega, by omega, fun t _ _ => by omega, fun t _ _ => by omega⟩
/-- What stands at k goes up to the place e - 1. -/
def upLoop [Inhabited α] (e k : Nat) (d : Array α) : Array α := if k + 1 < e then upLoop e (k + 1) (swp d k (k + 1)) else d
  termination_by e - k
theorem upLoop_ok [Inhabited α] (e : Nat) (n : Nat) : ∀ (k : Nat) (d : Array α), e - k ≤ n → k < e → e ≤ d.size → (upLoop e k d).size = d.size ∧ ∀ t, (upLoop e k d)[t]! = if k ≤ t ∧ t + 1 < e then d[t + 1]! else if t + 1 = e then d[k]! else d[t]! := by
  induction n with
  | zero => intro k d h1 h2 _; omega
  | succ n ih =>
    intro k d h1 h2 h3
    by_cases h : k + 1 < e
    · have hsz := size_swp d k (k + 1)
      have hg := swp_at d (i := k) (j := k + 1) (by omega) (by omega)
      obtain ⟨i1, i2⟩ := ih (k + 1) (swp d k (k + 1)) (by omega) h (by omega)
      rw [upLoop, if_pos h]
      refine ⟨by omega, fun t => ?_⟩
      rw [i2, hg, hg, hg, if_pos rfl]
      by_cases c1 : t = k
      · subst c1
        rw [if_neg (by omega), if_neg (by omega), if_neg (by omega), if_pos rfl, if_pos (by omega)]
      · by_cases c2 : k + 1 ≤ t ∧ t + 1 < e
        · rw [if_pos c2, if_neg (by omega), if_neg (by omega), if_pos (by omega)]
        · rw [if_neg c2, if_neg (show ¬ (k ≤ t ∧ t + 1 < e) by omega)]
          by_cases c3 : t + 1 = e
          · rw [if_pos c3, if_pos c3]
          · rw [if_neg c3, if_neg c3, if_neg (by omega), if_neg c1]
    · rw [upLoop, if_neg h]
      refine ⟨rfl, fun t => ?_⟩
      rw [if_neg (by omega)]
      by_cases c : t + 1 = e
      · rw [if_pos c, show t = k by omega]
      · rw [if_neg c]
/-- What stands at k goes down to the place i. -/
def downLoop [Inhabited α] (i : Nat) : Nat → Array α → Array α
  | 0, d => d
  | k + 1, d => if i < k + 1 then downLoop i k (swp d (k + 1) k) else d
theorem downLoop_ok [Inhabited α] (i : Nat) : ∀ (k : Nat) (d : Array α), i ≤ k → k < d.size → (downLoop i k d).size = d.size ∧ ∀ t, (downLoop i k d)[t]! = if t = i then d[k]! else if i < t ∧ t ≤ k then d[t - 1]! else d[t]!
  | 0, d, h1, h2 => by
    obtain rfl : i = 0 := by omega
    refine ⟨rfl, fun t => ?_⟩
    rw [downLoop]
    by_cases c : t = 0
    · rw [if_pos c, c]
    · rw [if_neg c, if_neg (by omega)]
  | k + 1, d, h1, h2 => by
    by_cases h : i < k + 1
    · have hsz := size_swp d (k + 1) k
      have hg := swp_at d (i := k + 1) (j := k) (by omega) (by omega)
      obtain ⟨i1, i2⟩ := downLoop_ok i k (swp d (k + 1) k) (by omega) (by omega)
      rw [downLoop, if_pos h]
      refine ⟨by omega, fun t => ?_⟩
      rw [i2, hg, hg, hg, if_pos rfl]
      by_cases c1 : t = i
      · rw [if_pos c1, if_pos c1]
      · rw [if_neg c1, if_neg c1]
        by_cases c2 : i < t ∧ t ≤ k
        · rw [if_pos c2, if_neg (by omega), if_neg (by omega), if_pos (by omega)]
        · rw [if_neg c2]
          by_cases c3 : t = k + 1
          · rw [if_neg (by omega), if_pos c3, if_pos (by omega), c3]
            rfl
          · rw [if_neg (by omega), if_neg c3, if_neg (by omega)]
    · obtain rfl : i = k + 1 := by omega
      rw [downLoop, if_neg h]
      refine ⟨rfl, fun t => ?_⟩
      by_cases c : t = k + 1
      · rw [if_pos c, c]
      · rw [if_neg c, if_neg (by omega)]
/-- n places from a on and from b on change over, from the i-th on. -/
def swRange [Inhabited α] (a b n i : Nat) (d : Array α) : Array α := if i < n then swRange a b n (i + 1) (swp d (a + i) (b + i)) else d
  termination_by n - i
theorem swRange_ok [Inhabited α] (a b n : Nat) (hab : a + n ≤ b) (r : Nat) : ∀ (i : Nat) (d : Array α), n - i ≤ r → i ≤ n → b + n ≤ d.size → (swRange a b n i d).size = d.size ∧ ∀ t, (swRange a b n i d)[t]! = if a + i ≤ t ∧ t < a + n then d[t - a + b]! else if b + i ≤ t ∧ t < b + n then d[t - b + a]! else d[t]! := by
  induction r with
  | zero =>
    intro i d h1 h2 h3
    rw [swRange, if_neg (by omega)]
    refine ⟨rfl, fun t => ?_⟩
    rw [if_neg (by omega), if_neg (by omega)]
  | succ r ih =>
    intro i d h1 h2 h3
    by_cases h : i < n
    · have hsz := size_swp d (a + i) (b + i)
      have hg := swp_at d (i := a + i) (j := b + i) (by omega) (by omega)
      obtain ⟨i1, i2⟩ := ih (i + 1) (swp d (a + i) (b + i)) (by omega) (by omega) (by omega)
      rw [swRange, if_pos h]
      refine ⟨by omega, fun t => ?_⟩
      rw [i2, hg, hg, hg]
      by_cases c1 : a + i ≤ t ∧ t < a + n
      · rw [if_pos c1]
        by_cases c2 : t = a + i
        · rw [if_neg (by omega), if_neg (by omega), if_neg (by omega), if_pos c2, c2]
          congr 1
          omega
        · rw [if_pos (by omega), if_neg (by omega), if_neg (by omega)]
      · rw [if_neg c1, if_neg (by omega)]
        by_cases c2 : b + i ≤ t ∧ t < b + n
        · rw [if_pos c2]
          by_cases c3 : t = b + i
          · rw [if_neg (by omega), if_pos c3, c3]
            congr 1
            omega
          · rw [if_pos (by omega), if_neg (by omega), if_neg (by omega)]
        · rw [if_neg c2, if_neg (by omega), if_neg (by omega), if_neg (by omega)]
    · rw [swRange, if_neg h]
      refine ⟨rfl, fun t => ?_⟩
      rw [if_neg (by omega), if_neg (by omega)]
/-- i places ahead of m and j places from m on change over (rotateCmpFunc's loop). -/
def rot [Inhabited α] (m : Nat) (i j : Nat) (d : Array α) : Array α :=
  if h : i = 0 ∨ j = 0 then d else if i = j then swRange (m - i) m i 0 d
  else if j < i then rot m (i - j) j (swRange (m - i) m j 0 d) else rot m i (j - i) (swRange (m - i) (m + j - i) i 0 d)
  termination_by i + j
theorem rot_ok [Inhabited α] (m : Nat) (n : Nat) : ∀ (i j : Nat) (d : Array α), i + j ≤ n → 0 < i → 0 < j → i ≤ m → m + j ≤ d.size →
    (rot m i j d).size = d.size ∧ ∀ t, (rot m i j d)[t]! = if m - i ≤ t ∧ t < m - i + j then d[t + i]! else if m - i + j ≤ t ∧ t < m + j then d[t - j]! else d[t]! := by
  induction n with
  | zero => intro i j d h1 h2 h3; omega
  | succ n ih =>
    intro i j d h1 h2 h3 h4 h5
    rw [rot, dif_neg (by omega)]
    by_cases e : i = j
    · subst e
      rw [if_pos rfl]
      obtain ⟨s1, s2⟩ := swRange_ok (m - i) m i (by omega) i 0 d (by omega) (by omega) (by omega)
      refine ⟨s1, fun t => ?_⟩
      rw [s2]
      by_cases c1 : m - i ≤ t ∧ t < m - i + i
      · rw [if_pos (by omega), if_pos c1]
        congr 1
        omega
      · rw [if_neg (by omega), if_neg c1]
        by_cases c2 : m - i + i ≤ t ∧ t < m + i
        · rw [if_pos (by omega), if_pos c2]
          congr 1
          omega
        · rw [if_neg (by omega), if_neg c2]
    · rw [if_neg e]
      by_cases g : j < i
      · rw [if_pos g]
        obtain ⟨s1, s2⟩ := swRange_ok (m - i) m j (by omega) j 0 d (by omega) (by omega) (by omega)
        obtain ⟨r1, r2⟩ := ih (i - j) j (swRange (m - i) m j 0 d) (by omega) (by omega) h3 (by omega) (by omega)
        refine ⟨by omega, fun t => ?_⟩
        rw [r2, s2, s2, s2]
        by_cases c1 : m - i ≤ t ∧ t < m - i + j
        · rw [if_neg (by omega), if_neg (by omega), if_pos (by omega), if_pos c1]
          congr 1
          omega
        · rw [if_neg c1]
          by_cases c2 : m - i + j ≤ t ∧ t < m + j
          · rw [if_pos c2]
            by_cases c3 : t < m - (i - j) + j
            · rw [if_pos (by omega), if_neg (by omega), if_pos (by omega)]
              congr 1
              omega
            · rw [if_neg (by omega), if_pos (by omega), if_neg (by omega), if_neg (by omega)]
          · rw [if_neg c2, if_neg (by omega), if_neg (by omega), if_neg (by omega), if_neg (by omega)]
      · rw [if_neg g]
        obtain ⟨s1, s2⟩ := swRange_ok (m - i) (m + j - i) i (by omega) i 0 d (by omega) (by omega) (by omega)
        obtain ⟨r1, r2⟩ := ih i (j - i) (swRange (m - i) (m + j - i) i 0 d) (by omega) (by omega) (by omega) (by omega) (by omega)
        refine ⟨by omega, fun t => ?_⟩
        rw [r2, s2, s2, s2]
        by_cases c1 : m - i ≤ t ∧ t < m - i + j
        · rw [if_pos c1]
          by_cases c3 : t < m - i + (j - i)
          · rw [if_pos (by omega), if_neg (by omega), if_neg (by omega)]
          · rw [if_neg (by omega)]
            by_cases c4 : t < m + (j - i)
            · rw [if_pos (by omega), if_pos (by omega)]
              congr 1
              omega
            · omega
        · rw [if_neg c1]
          by_cases c2 : m - i + j ≤ t ∧ t < m + j
          · rw [if_pos c2, if_neg (by omega), if_neg (by omega)]
            by_cases c5 : m + j - i + 0 ≤ t
            · rw [if_neg (by omega), if_pos (by omega)]
              congr 1
              omega
            · omega
          · rw [if_neg c2, if_neg (by omega), if_neg (by omega), if_neg (by omega), if_neg (by omega)]

/-! ### The merge -/
/-- symMergeCmpFunc: the stretches [a, m) and [m, b) merged; f bounds the depth. -/
def symM [Inhabited α] (lt : α → α → Bool) : Nat → Array α → Nat → Nat → Nat → Array α
  | 0, d, _, _, _ => d
  | f + 1, d, a, m, b =>
    if m - a = 1 then upLoop (bsearch (fun h => lt d[h]! d[a]!) m b) a d
    else if b - m = 1 then downLoop (bsearch (fun h => !lt d[m]! d[h]!) a m) m d
    else
      symHalves f (bsearch (fun c => !lt d[(a + b) / 2 + m - 1 - c]! d[c]!) (if (a + b) / 2 < m then (a + b) / 2 + m - b else a) (if (a + b) / 2 < m then (a + b) / 2 else m)) d a m b
  where
  symHalves (f s : Nat) (d : Array α) (a m b : Nat) : Array α :=
    let d1 := if s < m ∧ m < (a + b) / 2 + m - s then rot m (m - s) ((a + b) / 2 + m - s - m) d else d
    let d2 := if a < s ∧ s < (a + b) / 2 then symM lt f d1 a s ((a + b) / 2) else d1
    if (a + b) / 2 < (a + b) / 2 + m - s ∧ (a + b) / 2 + m - s < b then symM lt f d2 ((a + b) / 2) ((a + b) / 2 + m - s) b else d2
/-- One merged stretch: sizes, what stands beside, what stands in it. -/
def Merged [Inhabited α] (lt : α → α → Bool) (d d' : Array α) (a m b : Nat) : Prop :=
  d'.size = d.size ∧ (∀ t, t < a ∨ b ≤ t → d'[t]! = d[t]!) ∧ seg d' a b = mg lt (seg d a m) (seg d m b)
theorem asc_split {l1 l2 : List α} (h : Asc lt (l1 ++ l2)) : Asc lt l1 ∧ Asc lt l2 := ⟨(List.pairwise_append.1 h).1, (List.pairwise_append.1 h).2.1⟩
theorem up_ok [Inhabited α] (hS : SWO lt) (d : Array α) (a b : Nat) (h1 : a + 1 < b) (h2 : b ≤ d.size) (hB : Asc lt (seg d (a + 1) b)) :
    Merged lt d (upLoop (bsearch (fun h => lt d[h]! d[a]!) (a + 1) b) a d) a (a + 1) b := by
  obtain ⟨s1, s2, s3, s4⟩ := bsearch_ok (fun h => lt d[h]! d[a]!) (b - (a + 1)) (a + 1) b (by omega) (by omega) fun s t g1 g2 g3 g4 => by
    have := asc_seg d hB s t g1 g2 g3
    cases e : lt d[s]! d[a]! with
    | true => rfl
    | false =>
      have := hS.ntrans _ _ _ this e
      have g5 : lt d[t]! d[a]! = true := g4
      rw [this] at g5
      cases g5
  generalize bsearch (fun h => lt d[h]! d[a]!) (a + 1) b = r at *
  obtain ⟨u1, u2⟩ := upLoop_ok r (r - a) a d (by omega) (by omega) (by omega)
  refine ⟨u1, fun t ht => ?_, ?_⟩
  · rw [u2, if_neg (by omega), if_neg (by omega)]
  · have e1 : seg (upLoop r a d) a b = seg d (a + 1) r ++ ([d[a]!] ++ seg d r b) := by
      rw [seg_split (upLoop r a d) (a := a) (m := r - 1) (b := b) (by omega) (by omega), seg_split (upLoop r a d) (a := r - 1) (m := r) (b := b) (by omega) (by omega)]
      congr 1
      · obtain ⟨n, hn⟩ : ∃ n, r = a + 1 + n := ⟨r - (a + 1), by omega⟩
        have := seg_shift (upLoop r a d) d a (a + 1) n fun t ht => by
          rw [u2, if_pos (by omega)]
          congr 1
          omega
        rw [hn] at this ⊢
        rw [← this]
        congr 1
        omega
      · congr 1
        · have := seg_one (upLoop r a d) (r - 1)
          rw [show r - 1 + 1 = r by omega] at this
          rw [this, u2, if_neg (by omega), if_pos (by omega)]
        · exact seg_congr _ _ _ _ fun t t1 t2 => by rw [u2, if_neg (by omega), if_neg (by omega)]
    rw [e1, seg_one, seg_split d (a := a + 1) (m := r) (b := b) (by omega) (by omega)]
    have hm := mg_split (lt := lt) _ [] (seg d (a + 1) r) [d[a]!] (seg d r b) (Nat.le_refl _) (by simp) fun y hy z hz => by
      obtain ⟨t, t1, t2, rfl⟩ := seg_mem d hy
      obtain rfl := List.mem_singleton.1 hz
      exact s3 t t1 t2
    have hn : mg lt [d[a]!] (seg d r b) = [d[a]!] ++ seg d r b := by
      have := mg_split (lt := lt) _ [d[a]!] [] [] (seg d r b) (Nat.le_refl _) (fun z hz y hy => by
        obtain ⟨t, t1, t2, rfl⟩ := seg_mem d hy
        obtain rfl := List.mem_singleton.1 hz
        exact s4 t t1 t2) (by simp)
      simpa [mg] using this
    rw [List.nil_append, hn] at hm
    rw [hm]
    simp [mg]
theorem down_ok [Inhabited α] (hS : SWO lt) (d : Array α) (a m : Nat) (h1 : a < m) (h2 : m + 1 ≤ d.size) (hA : Asc lt (seg d a m)) :
    Merged lt d (downLoop (bsearch (fun h => !lt d[m]! d[h]!) a m) m d) a m (m + 1) := by
  obtain ⟨s1, s2, s3, s4⟩ := bsearch_ok (fun h => !lt d[m]! d[h]!) (m - a) a m (by omega) (by omega) fun s t g1 g2 g3 g4 => by
    have := asc_seg d hA s t g1 g2 g3
    simp only [Bool.not_eq_true'] at g4 ⊢
    exact hS.ntrans _ _ _ g4 this
  generalize bsearch (fun h => !lt d[m]! d[h]!) a m = r at *
  obtain ⟨u1, u2⟩ := downLoop_ok r m d (by omega) (by omega)
  refine ⟨u1, fun t ht => ?_, ?_⟩
  · rw [u2, if_neg (by omega), if_neg (by omega)]
  · have e1 : seg (downLoop r m d) a (m + 1) = seg d a r ++ ([d[m]!] ++ seg d r m) := by
      rw [seg_split (downLoop r m d) (a := a) (m := r) (b := m + 1) (by omega) (by omega), seg_split (downLoop r m d) (a := r) (m := r + 1) (b := m + 1) (by omega) (by omega)]
      congr 1
      · exact seg_congr _ _ _ _ fun t t1 t2 => by rw [u2, if_neg (by omega), if_neg (by omega)]
      · congr 1
        · rw [seg_one, u2, if_pos rfl]
        · obtain ⟨n, hn⟩ : ∃ n, m = r + n := ⟨m - r, by omega⟩
          have := seg_shift (downLoop r m d) d (r + 1) r n fun t ht => by
            rw [u2, if_neg (by omega), if_pos (by omega)]
            congr 1
            omega
          rw [hn] at this ⊢
          rw [← this]
          congr 1
          omega
    rw [e1, seg_one, seg_split d (a := a) (m := r) (b := m) (by omega) (by omega)]
    have hm := mg_split (lt := lt) _ (seg d a r) [] (seg d r m) [d[m]!] (Nat.le_refl _) (fun y hy z hz => by
      obtain ⟨t, t1, t2, rfl⟩ := seg_mem d hy
      obtain rfl := List.mem_singleton.1 hz
      simpa using s3 t t1 t2) (by simp)
    have hn : mg lt (seg d r m) [d[m]!] = [d[m]!] ++ seg d r m := by
      have := mg_split (lt := lt) _ [] [d[m]!] (seg d r m) [] (Nat.le_refl _) (by simp) (fun z hz y hy => by
        obtain ⟨t, t1, t2, rfl⟩ := seg_mem d hy
        obtain rfl := List.mem_singleton.1 hz
        simpa using s4 t t1 t2)
      simpa [mg, mg_nil] using this
    rw [List.nil_append, hn] at hm
    rw [hm, mg_nil]
theorem symM_ok [Inhabited α] (hS : SWO lt) : ∀ (f : Nat) (d : Array α) (a m b : Nat), a < m → m < b → b ≤ d.size → b - a ≤ f → Asc lt (seg d a m) → Asc lt (seg d m b) → Merged lt d (symM lt f d a m b) a m b
  | 0, d, a, m, b, h1, h2, h3, h4, _, _ => by omega
  | f + 1, d, a, m, b, h1, h2, h3, h4, hA, hB => by
    rw [symM]
    by_cases c1 : m - a = 1
    · rw [if_pos c1]
      obtain rfl : m = a + 1 := by omega
      exact up_ok hS d a b h2 h3 hB
    · rw [if_neg c1]
      by_cases c2 : b - m = 1
      · rw [if_pos c2]
        obtain rfl : b = m + 1 := by omega
        exact down_ok hS d a m h1 h3 hA
      · rw [if_neg c2]
        generalize hmid : (a + b) / 2 = mid
        obtain ⟨lo, hlo⟩ : ∃ lo, lo = if mid < m then mid + m - b else a := ⟨_, rfl⟩
        obtain ⟨hi, hhi⟩ : ∃ hi, hi = if mid < m then mid else m := ⟨_, rfl⟩
        have hlh : a ≤ lo ∧ lo ≤ hi ∧ hi ≤ m ∧ hi ≤ mid ∧ (mid < m → lo = mid + m - b ∧ hi = mid) ∧ (¬ mid < m → lo = a ∧ hi = m) := by
          by_cases c : mid < m
          · rw [if_pos c] at hlo hhi; omega
          · rw [if_neg c] at hlo hhi; omega
        rw [← hlo, ← hhi]
        clear hlo hhi
        obtain ⟨k1, k2, k3, k4, k5, k6⟩ := hlh
        have hR : ∀ c, lo ≤ c → c < hi → m ≤ mid + m - 1 - c ∧ mid + m - 1 - c < b := fun c g1 g2 => by
          by_cases e : mid < m
          · have := k5 e; omega
          · have := k6 e; omega
        obtain ⟨s1, s2, s3, s4⟩ := bsearch_ok (fun c => !lt d[mid + m - 1 - c]! d[c]!) (hi - lo) lo hi (by omega) (by omega) fun s t g1 g2 g3 g4 => by
          simp only [Bool.not_eq_true'] at g4 ⊢
          have e1 := asc_seg d hA s t (by omega) g2 (by omega)
          have r1 := hR s g1 (by omega)
          have r2 := hR t (by omega) g3
          have e2 := asc_seg d hB (mid + m - 1 - t) (mid + m - 1 - s) (by omega) (by omega) (by omega)
          exact hS.ntrans _ _ _ e2 (hS.ntrans _ _ _ g4 e1)
        generalize bsearch (fun c => !lt d[mid + m - 1 - c]! d[c]!) lo hi = s at *
        unfold symM.symHalves
        simp only [hmid]
        obtain ⟨e, he⟩ : ∃ e, e = mid + m - s := ⟨_, rfl⟩
        rw [← he]
        have hme : m ≤ e ∧ e ≤ b := by
          by_cases g : mid < m
          · have := k5 g; omega
          · have := k6 g; omega
        -- which goes where
        have cA : ∀ x ∈ seg d a s, ∀ y ∈ seg d e b, lt y x = false := by
          intro x hx y hy
          obtain ⟨t, t1, t2, rfl⟩ := seg_mem d hx
          obtain ⟨u, u1, u2, rfl⟩ := seg_mem d hy
          have hlt : lo < s := by
            by_cases g : mid < m
            · have := k5 g; omega
            · have := k6 g; omega
          have p := s3 (s - 1) (by omega) (by omega)
          simp only [Bool.not_eq_true'] at p
          rw [show mid + m - 1 - (s - 1) = e by omega] at p
          have q1 : lt d[s - 1]! d[t]! = false := by
            by_cases g : t = s - 1
            · rw [g]; exact hS.irrefl _
            · exact asc_seg d hA t (s - 1) t1 (by omega) (by omega)
          have q2 : lt d[u]! d[e]! = false := by
            by_cases g : u = e
            · rw [g]; exact hS.irrefl _
            · exact asc_seg d hB e u (by omega) (by omega) u2
          exact hS.ntrans _ _ _ q2 (hS.ntrans _ _ _ p q1)
        have cB : ∀ y ∈ seg d m e, ∀ x ∈ seg d s m, lt y x = true := by
          intro y hy x hx
          obtain ⟨t, t1, t2, rfl⟩ := seg_mem d hx
          obtain ⟨u, u1, u2, rfl⟩ := seg_mem d hy
          have hlt : s < hi := by
            by_cases g : mid < m
            · have := k5 g; omega
            · have := k6 g; omega
          have p := s4 s (by omega) hlt
          simp only [Bool.not_eq_false'] at p
          rw [show mid + m - 1 - s = e - 1 by omega] at p
          have q1 : lt d[t]! d[s]! = false := by
            by_cases g : t = s
            · rw [g]; exact hS.irrefl _
            · exact asc_seg d hA s t (by omega) (by omega) t2
          have q2 : lt d[e - 1]! d[u]! = false := by
            by_cases g : u = e - 1
            · rw [g]; exact hS.irrefl _
            · exact asc_seg d hB u (e - 1) u1 (by omega) (by omega)
          cases z : lt d[u]! d[t]! with
          | true => rfl
          | false =>
            have := hS.ntrans _ _ _ q2 (hS.ntrans _ _ _ z q1)
            rw [this] at p
            cases p
        have hAs := seg_split d (a := a) (m := s) (b := m) (by omega) (by omega)
        have hBs := seg_split d (a := m) (m := e) (b := b) (by omega) (by omega)
        have hmg := mg_split (lt := lt) _ (seg d a s) (seg d m e) (seg d s m) (seg d e b) (Nat.le_refl _) cA cB
        rw [← hAs, ← hBs] at hmg
        rw [hAs] at hA
        rw [hBs] at hB
        have aA := asc_split hA
        have aB := asc_split hB
        -- behind the rotation
        obtain ⟨d1, hd1⟩ : ∃ d1, d1 = if s < m ∧ m < e then rot m (m - s) (e - m) d else d := ⟨_, rfl⟩
        rw [← hd1]
        have R : d1.size = d.size ∧ (∀ t, t < s ∨ e ≤ t → d1[t]! = d[t]!) ∧ seg d1 s mid = seg d m e ∧ seg d1 mid e = seg d s m := by
          by_cases g : s < m ∧ m < e
          · rw [if_pos g] at hd1
            obtain ⟨r1, r2⟩ := rot_ok m (m - s + (e - m)) (m - s) (e - m) d (Nat.le_refl _) (by omega) (by omega) (by omega) (by omega)
            rw [← hd1] at r1 r2
            refine ⟨r1, fun t ht => by rw [r2, if_neg (by omega), if_neg (by omega)], ?_, ?_⟩
            · have := seg_shift d1 d s m (e - m) fun t ht => by
                rw [r2, if_pos (by omega)]
                congr 1
                omega
              rw [show s + (e - m) = mid by omega, show m + (e - m) = e by omega] at this
              exact this
            · have := seg_shift d1 d mid s (m - s) fun t ht => by
                rw [r2, if_neg (by omega), if_pos (by omega)]
                congr 1
                omega
              rw [show mid + (m - s) = e by omega, show s + (m - s) = m by omega] at this
              exact this
          · rw [if_neg g] at hd1
            subst hd1
            refine ⟨rfl, fun _ _ => rfl, ?_, ?_⟩
            · by_cases g2 : s < m
              · rw [seg_nil _ (by omega), seg_nil _ (by omega)]
              · obtain rfl : s = m := by omega
                congr 1
                omega
            · by_cases g2 : s < m
              · congr 1 <;> omega
              · rw [seg_nil _ (by omega), seg_nil _ (by omega)]
        clear hd1
        obtain ⟨R1, R2, R3, R4⟩ := R
        have R5 : seg d1 a s = seg d a s := seg_congr _ _ _ _ fun t t1 t2 => R2 t (by omega)
        have R6 : seg d1 e b = seg d e b := seg_congr _ _ _ _ fun t t1 t2 => R2 t (by omega)
        -- the left half
        obtain ⟨d2, hd2⟩ : ∃ d2, d2 = if a < s ∧ s < mid then symM lt f d1 a s mid else d1 := ⟨_, rfl⟩
        rw [← hd2]
        have M2 : Merged lt d1 d2 a s mid := by
          by_cases g : a < s ∧ s < mid
          · rw [if_pos g] at hd2
            rw [hd2]
            exact symM_ok hS f d1 a s mid g.1 g.2 (by omega) (by omega) (by rw [R5]; exact aA.1) (by rw [R3]; exact aB.1)
          · rw [if_neg g] at hd2
            subst hd2
            refine ⟨rfl, fun _ _ => rfl, ?_⟩
            rw [seg_split d2 (a := a) (m := s) (b := mid) (by omega) (by omega)]
            by_cases g2 : a < s
            · rw [seg_nil d2 (a := s) (b := mid) (by omega), mg_nil, List.append_nil]
            · rw [seg_nil d2 (a := a) (b := s) (by omega)]
              simp [mg]
        clear hd2
        obtain ⟨M21, M22, M23⟩ := M2
        have N1 : seg d2 mid e = seg d s m := by rw [← R4]; exact seg_congr _ _ _ _ fun t t1 t2 => M22 t (by omega)
        have N2 : seg d2 e b = seg d e b := by rw [← R6]; exact seg_congr _ _ _ _ fun t t1 t2 => M22 t (by omega)
        obtain ⟨d3, hd3⟩ : ∃ d3, d3 = if mid < e ∧ e < b then symM lt f d2 mid e b else d2 := ⟨_, rfl⟩
        rw [← hd3]
        have M3 : Merged lt d2 d3 mid e b := by
          by_cases g : mid < e ∧ e < b
          · rw [if_pos g] at hd3
            rw [hd3]
            exact symM_ok hS f d2 mid e b g.1 g.2 (by omega) (by omega) (by rw [N1]; exact aA.2) (by rw [N2]; exact aB.2)
          · rw [if_neg g] at hd3
            subst hd3
            refine ⟨rfl, fun _ _ => rfl, ?_⟩
            rw [seg_split d3 (a := mid) (m := e) (b := b) (by omega) (by omega)]
            by_cases g2 : mid < e
            · rw [seg_nil d3 (a := e) (b := b) (by omega), mg_nil, List.append_nil]
            · rw [seg_nil d3 (a := mid) (b := e) (by omega)]
              simp [mg]
        clear hd3
        obtain ⟨M31, M32, M33⟩ := M3
        refine ⟨by omega, fun t ht => ?_, ?_⟩
        · rw [M32 t (by omega), M22 t (by omega), R2 t (by omega)]
        · rw [hmg, seg_split d3 (a := a) (m := mid) (b := b) (by omega) (by omega), M33, N1, N2, seg_congr d3 d2 a mid fun t t1 t2 => M32 t (by omega), M23, R5, R3]

/-! ### The whole -/
/-- The blocks of twenty, each sorted, from a on. -/
def blk1 [Inhabited α] (lt : α → α → Bool) (n a : Nat) (d : Array α) : Array α := if a + 20 ≤ n then blk1 lt n (a + 20) (insertionSort lt d a (a + 20)) else insertionSort lt d a n
  termination_by n + 20 - a
/-- One pass of merges of neighbours of width s, from a on. -/
def pass [Inhabited α] (lt : α → α → Bool) (s n a : Nat) (d : Array α) : Array α :=
  if h : s = 0 then d else if a + 2 * s ≤ n then pass lt s n (a + 2 * s) (symM lt (2 * s) d a (a + s) (a + 2 * s)) else if a + s < n then symM lt (2 * s) d a (a + s) n else d
  termination_by n - a
def passes [Inhabited α] (lt : α → α → Bool) (s n : Nat) (d : Array α) : Array α := if h : s = 0 then d else if s < n then passes lt (2 * s) n (pass lt s n 0 d) else d
  termination_by n - s
/-- stableCmpFunc. -/
def stableA [Inhabited α] (lt : α → α → Bool) (n : Nat) (d : Array α) : Array α := passes lt 20 n (blk1 lt n 0 d)
/-- From lo on (a multiple of s) each block of width s is sorted, of what stood there. -/
def Blocks [Inhabited α] (lt : α → α → Bool) (d0 d : Array α) (s n lo hi : Nat) : Prop := ∀ q, lo ≤ q * s → q * s < hi → seg d (q * s) (min (q * s + s) n) = isort lt (seg d0 (q * s) (min (q * s + s) n))
theorem mul_gap {q r s : Nat} (h : q * s < r * s) : q * s + s ≤ r * s := by
  have hqr : q < r := Nat.lt_of_mul_lt_mul_right h
  have := Nat.mul_le_mul_right s hqr
  rw [Nat.succ_mul] at this
  exact this
theorem blk1_ok [Inhabited α] (hS : SWO lt) (d0 : Array α) (n : Nat) (hn : n = d0.size) (r : Nat) : ∀ (p : Nat) (d : Array α), n + 20 - p * 20 ≤ r → p * 20 ≤ n → d.size = d0.size → (∀ t, p * 20 ≤ t → d[t]! = d0[t]!) → Blocks lt d0 d 20 n 0 (p * 20) →
    (blk1 lt n (p * 20) d).size = d0.size ∧ Blocks lt d0 (blk1 lt n (p * 20) d) 20 n 0 n := by
  induction r with
  | zero => intro p d h1 h2; omega
  | succ r ih =>
    intro p d h1 h2 h3 h4 h5
    rw [blk1]
    by_cases c : p * 20 + 20 ≤ n
    · rw [if_pos c]
      obtain ⟨i1, i2, i3⟩ := insertionSort_ok hS d (p * 20) (p * 20 + 20) (by omega) (by omega)
      have := ih (p + 1) (insertionSort lt d (p * 20) (p * 20 + 20)) (by omega) (by omega) (by omega) (fun t ht => by rw [i2 t (by omega), h4 t (by omega)]) (by
        intro q q1 q2
        by_cases g : q * 20 < p * 20
        · rw [seg_congr _ d _ _ fun t t1 t2 => i2 t (by omega)]
          exact h5 q q1 g
        · obtain rfl : q = p := by omega
          rw [show min (q * 20 + 20) n = q * 20 + 20 by omega, i3]
          congr 1
          exact seg_congr _ _ _ _ fun t t1 t2 => h4 t t1)
      rw [show (p + 1) * 20 = p * 20 + 20 by omega] at this
      exact this
    · rw [if_neg c]
      obtain ⟨i1, i2, i3⟩ := insertionSort_ok hS d (p * 20) n (by omega) (by omega)
      refine ⟨by omega, fun q q1 q2 => ?_⟩
      by_cases g : q * 20 < p * 20
      · rw [seg_congr _ d _ _ fun t t1 t2 => i2 t (by omega)]
        exact h5 q q1 g
      · obtain rfl : q = p := by omega
        rw [show min (q * 20 + 20) n = n by omega, i3]
        congr 1
        exact seg_congr _ _ _ _ fun t t1 t2 => h4 t t1
/-- A merge of two neighbours, each sorted. -/
theorem merge_step [Inhabited α] (hS : SWO lt) (d0 d : Array α) (a m b f : Nat) (h1 : a < m) (h2 : m < b) (h3 : b ≤ d.size) (h4 : b - a ≤ f) (hA : seg d a m = isort lt (seg d0 a m)) (hB : seg d m b = isort lt (seg d0 m b)) :
    (symM lt f d a m b).size = d.size ∧ (∀ t, t < a ∨ b ≤ t → (symM lt f d a m b)[t]! = d[t]!) ∧ seg (symM lt f d a m b) a b = isort lt (seg d0 a b) := by
  obtain ⟨m1, m2, m3⟩ := symM_ok hS f d a m b h1 h2 h3 h4 (by rw [hA]; exact isort_asc hS _) (by rw [hB]; exact isort_asc hS _)
  refine ⟨m1, m2, ?_⟩
  rw [m3, hA, hB, mg_isort hS, ← seg_split d0 (by omega) (by omega)]
theorem pass_ok [Inhabited α] (hS : SWO lt) (d0 : Array α) (n s : Nat) (hn : n = d0.size) (hs : 0 < s) (r : Nat) : ∀ (p : Nat) (d : Array α), n + 1 - p * (2 * s) ≤ r → p * (2 * s) ≤ n → d.size = d0.size → Blocks lt d0 d s n (p * (2 * s)) n → Blocks lt d0 d (2 * s) n 0 (p * (2 * s)) →
    (pass lt s n (p * (2 * s)) d).size = d0.size ∧ Blocks lt d0 (pass lt s n (p * (2 * s)) d) (2 * s) n 0 n := by
  induction r with
  | zero => intro p d h1 h2; omega
  | succ r ih =>
    intro p d h1 h2 h3 h4 h5
    obtain ⟨A, hA⟩ : ∃ A, A = p * (2 * s) := ⟨_, rfl⟩
    have eA : (2 * p) * s = A := by rw [hA, Nat.mul_comm 2 p, Nat.mul_assoc]
    have eA1 : (2 * p + 1) * s = A + s := by rw [Nat.add_mul, Nat.one_mul, eA]
    have eA2 : (p + 1) * (2 * s) = A + 2 * s := by rw [Nat.add_mul, Nat.one_mul, hA]
    rw [← hA] at h1 h2 h4 h5 ⊢
    have b0 := h4 (2 * p) (by omega)
    have b1 := h4 (2 * p + 1) (by omega)
    rw [eA] at b0
    rw [eA1] at b1
    rw [pass, dif_neg (by omega)]
    by_cases c : A + 2 * s ≤ n
    · rw [if_pos c]
      have e0 := b0 (by omega)
      have e1 := b1 (by omega)
      rw [show min (A + s) n = A + s by omega] at e0
      rw [show min (A + s + s) n = A + 2 * s by omega] at e1
      obtain ⟨m1, m2, m3⟩ := merge_step hS d0 d A (A + s) (A + 2 * s) (2 * s) (by omega) (by omega) (by omega) (by omega) e0 e1
      have := ih (p + 1) (symM lt (2 * s) d A (A + s) (A + 2 * s)) (by omega) (by omega) (by omega) (by
        intro q q1 q2
        rw [seg_congr _ d _ _ fun t t1 t2 => m2 t (by omega)]
        exact h4 q (by omega) q2) (by
        intro q q1 q2
        by_cases g : q * (2 * s) < A
        · have := mul_gap (q := q) (r := p) (s := 2 * s) (by omega)
          rw [seg_congr _ d _ _ fun t t1 t2 => m2 t (by omega)]
          exact h5 q q1 g
        · have hq : q * (2 * s) = A := by
            have : ¬ p * (2 * s) < q * (2 * s) := fun hlt => by
              have := mul_gap hlt
              omega
            omega
          rw [hq, show min (A + 2 * s) n = A + 2 * s by omega]
          exact m3)
      rw [eA2] at this
      exact this
    · rw [if_neg c]
      by_cases c2 : A + s < n
      · rw [if_pos c2]
        have e0 := b0 (by omega)
        have e1 := b1 (by omega)
        rw [show min (A + s) n = A + s by omega] at e0
        rw [show min (A + s + s) n = n by omega] at e1
        obtain ⟨m1, m2, m3⟩ := merge_step hS d0 d A (A + s) n (2 * s) (by omega) (by omega) (by omega) (by omega) e0 e1
        refine ⟨by omega, fun q q1 q2 => ?_⟩
        by_cases g : q * (2 * s) < A
        · have := mul_gap (q := q) (r := p) (s := 2 * s) (by omega)
          rw [seg_congr _ d _ _ fun t t1 t2 => m2 t (by omega)]
          exact h5 q q1 g
        · have hq : q * (2 * s) = A := by
            have : ¬ p * (2 * s) < q * (2 * s) := fun hlt => by
              have := mul_gap hlt
              omega
            omega
          rw [hq, show min (A + 2 * s) n = n by omega]
          exact m3
      · rw [if_neg c2]
        refine ⟨h3, fun q q1 q2 => ?_⟩
        by_cases g : q * (2 * s) < A
        · exact h5 q q1 g
        · have hq : q * (2 * s) = A := by
            have : ¬ p * (2 * s) < q * (2 * s) := fun hlt => by
              have := mul_gap hlt
              omega
            omega
          have e0 := b0 (by omega)
          rw [show min (A + s) n = n by omega] at e0
          rw [hq, show min (A + 2 * s) n = n by omega]
          exact e0
theorem passes_ok [Inhabited α] (hS : SWO lt) (d0 : Array α) (n : Nat) (hn : n = d0.size) (r : Nat) : ∀ (s : Nat) (d : Array α), n - s ≤ r → 0 < s → d.size = d0.size → Blocks lt d0 d s n 0 n → (passes lt s n d).size = d0.size ∧ seg (passes lt s n d) 0 n = isort lt (seg d0 0 n) := by
  have fin : ∀ (s : Nat) (d : Array α), 0 < s → n ≤ s → Blocks lt d0 d s n 0 n → seg d 0 n = isort lt (seg d0 0 n) := by
    intro s d hs h hb
    by_cases g : n = 0
    · rw [seg_nil _ (by omega), seg_nil _ (by omega)]
      rfl
    · have := hb 0 (by omega) (by omega)
      rw [Nat.zero_mul, show min (0 + s) n = n by omega] at this
      exact this
  induction r with
  | zero =>
    intro s d h1 h2 h3 h4
    rw [passes, dif_neg (by omega), if_neg (by omega)]
    exact ⟨h3, fin s d h2 (by omega) h4⟩
  | succ r ih =>
    intro s d h1 h2 h3 h4
    rw [passes, dif_neg (by omega)]
    by_cases c : s < n
    · rw [if_pos c]
      obtain ⟨p1, p2⟩ := pass_ok hS d0 n s hn h2 (n + 1) 0 d (by omega) (by omega) h3 (by simpa using h4) (by intro q _ h; omega)
      rw [Nat.zero_mul] at p1 p2
      exact ih (2 * s) _ (by omega) (by omega) p1 p2
    · rw [if_neg c]
      exact ⟨h3, fin s d h2 (by omega) h4⟩
/-- THE LIBRARY's STABLE SORT: every element behind what is not greater and stood ahead. -/
theorem stableA_ok [Inhabited α] (hS : SWO lt) (d : Array α) : (stableA lt d.size d).toList = isort lt d.toList := by
  unfold stableA
  obtain ⟨b1, b2⟩ := blk1_ok hS d d.size rfl (d.size + 20) 0 d (by omega) (by omega) rfl (fun _ _ => rfl) (by intro q _ h; omega)
  rw [Nat.zero_mul] at b1 b2
  obtain ⟨p1, p2⟩ := passes_ok hS d d.size rfl d.size 20 _ (by omega) (by omega) b1 b2
  rw [← seg_all, ← seg_all d, p1]
  exact p2
theorem stableA_size [Inhabited α] (hS : SWO lt) (d : Array α) : (stableA lt d.size d).size = d.size := by
  have := congrArg List.length (stableA_ok hS d)
  rw [isort_length] at this
  simpa using this
end Go.Proofs.YtbbnlagdahickaaGreatDoor.Stable
