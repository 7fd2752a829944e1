/- Names, numerals, thousandths and cut lines: what the Lean functions of the program and of the reference answer. Conditions: those at each theorem. -/
import Derived.Test.YtbbnlagdahickaaGreatDoorOFnSamplesx12
import Derived.Test.YtbbnlagdahickaaGreatDoorOFnSamplesx11
import Derived.Test.YtbbnlagdahickaaGreatDoorOFnSamplesx9
import Derived.Test.YtbbnlagdahickaaGreatDoorOFnSamplesx10
import Derived.Test.YtbbnlagdahickaaGreatDoorBase
import Derived.Test.YtbbnlagdahickaaGreatDoorText
namespace Go.Proofs.YtbbnlagdahickaaGreatDoor.Pure
open Go.RowKit Go.Proofs.YtbbnlagdahickaaGreatDoor Go.Proofs.YtbbnlagdahickaaGreatDoor.PFnSamples Go.Proofs.YtbbnlagdahickaaGreatDoorW.PrintWords Go.Proofs.YtbbnlagdahickaaGreatDoorW.PrintLast
set_option linter.unusedSimpArgs false
set_option linter.unusedVariables false

theorem spec_in_eq (a b c : Int) : spec_l01In.f a b c = some (decide (b ≤ a ∧ a ≤ c)) := by
  unfold spec_l01In.f
  by_cases h : b ≤ a <;> simp [h]
theorem impl_in_eq (a b c : Int) : impl_in.f a b c = some (decide (b ≤ a ∧ a ≤ c)) := by
  unfold impl_in.f
  by_cases h : b ≤ a <;> simp [h]

theorem spec_amt_eq (a : Int) : spec_l01Amt.f a = some (decide (0 ≤ a ∧ a ≤ 1000000000)) := by
  unfold spec_l01Amt.f
  simp only [spec_in_eq, Option.bind_some]
theorem impl_size_eq (a : Int) : impl_isSize.f a = some (decide (0 ≤ a ∧ a ≤ 1000000000)) := by
  unfold impl_isSize.f
  simp only [impl_in_eq, Option.bind_some]

theorem spec_tick_eq (a : Int) : spec_l02Tick.f a = some (decide (0 ≤ a ∧ a ≤ 1000000000)) := by
  unfold spec_l02Tick.f
  simp only [spec_in_eq, Option.bind_some]
theorem impl_tick_eq (a : Int) : impl_isTick.f a = some (decide (0 ≤ a ∧ a ≤ 1000000000)) := by
  unfold impl_isTick.f
  simp only [impl_in_eq, Option.bind_some]

theorem spec_NameOk_l0 (s : ByteArray) (hs : s.size ≤ maxLen) (d : Nat) : ∀ (k : Nat) (i : Int), 0 ≤ i → (s.size : Int) - i = d → d < k → spec_NameOk.l0 k s i = some (Base.nameRest s d i) := by
  unfold maxLen at hs
  induction d with
  | zero =>
    intro k i h0 hd hk
    obtain ⟨k, rfl⟩ : ∃ m, k = m + 1 := ⟨k - 1, by omega⟩
    simp only [spec_NameOk.l0]
    rw [if_neg (by omega)]
    rfl
  | succ d ih =>
    intro k i h0 hd hk
    obtain ⟨k, rfl⟩ : ∃ m, k = m + 1 := ⟨k - 1, by omega⟩
    have hr := ih k (i + 1) (by omega) (by omega) (by omega)
    simp only [spec_NameOk.l0]
    rw [if_pos (by omega), if_pos h0, Base.wrap_in (by omega) (by omega), hr]
    simp only [Base.nameRest, Base.chr]
    by_cases h1 : bt s i < 97 <;> by_cases h2 : bt s i < 48 <;> by_cases h3 : bt s i > 57 <;> by_cases h4 : bt s i > 122 <;> simp [h1, h2, h3, h4]
theorem spec_NameOk_eq (s : ByteArray) (hs : s.size ≤ maxLen) (k : Nat) (hk : s.size < k) : spec_NameOk.f k s = some (Base.nameB s) := by
  unfold spec_NameOk.f Base.nameB
  rw [spec_in_eq, spec_NameOk_l0 s hs s.size k 0 (by omega) (by omega) hk]
  by_cases h : 1 ≤ (s.size : Int) ∧ (s.size : Int) ≤ 12 <;> simp [h]
theorem impl_NameOk_l0 (s : ByteArray) (hs : s.size ≤ maxLen) (d : Nat) : ∀ (k : Nat) (i : Int), 0 ≤ i → (s.size : Int) - i = d → d < k → impl_NameOk.l0 k s (s.size : Int) i = some (Base.nameRest s d i && decide (1 ≤ (s.size : Int) ∧ (s.size : Int) ≤ 12)) := by
  unfold maxLen at hs
  induction d with
  | zero =>
    intro k i h0 hd hk
    obtain ⟨k, rfl⟩ : ∃ m, k = m + 1 := ⟨k - 1, by omega⟩
    simp only [impl_NameOk.l0]
    rw [if_neg (by omega), impl_in_eq]
    simp [Base.nameRest]
  | succ d ih =>
    intro k i h0 hd hk
    obtain ⟨k, rfl⟩ : ∃ m, k = m + 1 := ⟨k - 1, by omega⟩
    have hr := ih k (i + 1) (by omega) (by omega) (by omega)
    simp only [impl_NameOk.l0]
    rw [if_pos (by omega), if_pos h0, if_pos (by omega), Base.wrap_in (by omega) (by omega), hr]
    simp only [Base.nameRest, Base.chr]
    by_cases h1 : bt s i < 97 <;> by_cases h2 : bt s i < 48 <;> by_cases h3 : bt s i > 57 <;> by_cases h4 : bt s i > 122 <;> simp [h1, h2, h3, h4]
theorem impl_NameOk_eq (s : ByteArray) (hs : s.size ≤ maxLen) (k : Nat) (hk : s.size < k) : impl_NameOk.f k s = some (Base.nameB s) := by
  unfold impl_NameOk.f Base.nameB
  exact impl_NameOk_l0 s hs s.size k 0 (by omega) (by omega) hk

theorem str_one (c : Int) (h0 : 0 ≤ c) (h1 : c < 256) : (strOfNums [c]).data.toList = [UInt8.ofNat c.toNat] ∧ (strOfNums [c]).size = 1 := by
  unfold strOfNums
  constructor
  · simp
  · rfl
/-- the digits of a number above 0, nothing of 0 -/
def dig (u : Nat) : List UInt8 := if u = 0 then [] else Lib.decDigits u
theorem dig_step (u : Nat) (h : u ≠ 0) : dig u = dig (u / 10) ++ [UInt8.ofNat (48 + u % 10)] := by
  unfold dig
  rw [if_neg h]
  by_cases h1 : u < 10
  · rw [Lib.decDigits, dif_pos h1, if_pos (by omega), Nat.mod_eq_of_lt h1]
    rfl
  · rw [Lib.decDigits, dif_neg h1, if_neg (by omega)]
theorem dig_len (d : Nat) : ∀ u : Nat, u < 10 ^ d → (dig u).length ≤ d := by
  induction d with
  | zero =>
    intro u hu
    obtain rfl : u = 0 := by simp at hu; exact hu
    simp [dig]
  | succ d ih =>
    intro u hu
    by_cases h : u = 0
    · simp [dig, h]
    · rw [dig_step u h]
      have := ih (u / 10) (by rw [Nat.pow_succ] at hu; omega)
      simp
      exact this
theorem dig_nil (acc : ByteArray) : acc = (⟨(dig (0 : Int).toNat).toArray⟩ : ByteArray) ++ acc := by
  apply Go.WideShapes.bytes_inj
  rw [Go.Joins.data_append]
  simp [dig]
theorem num_l0 (d : Nat) (hd : d ≤ 100) : ∀ (k : Nat) (x : Int) (acc : ByteArray), 0 ≤ x → x < 10 ^ d → x ≤ 9223372036854775807 → acc.size + d ≤ 1000 → d < k → spec_l01Num.l0 k x acc false = some ((⟨(dig x.toNat).toArray⟩ : ByteArray) ++ acc) := by
  induction d with
  | zero =>
    intro k x acc h0 h1 h2 hs hk
    obtain ⟨k, rfl⟩ : ∃ m, k = m + 1 := ⟨k - 1, by omega⟩
    obtain rfl : x = 0 := by simp at h1; omega
    simp only [spec_l01Num.l0, if_true, Bool.false_eq_true, if_false]
    exact congrArg some (dig_nil acc)
  | succ d ih =>
    intro k x acc h0 h1 h2 hs hk
    obtain ⟨k, rfl⟩ : ∃ m, k = m + 1 := ⟨k - 1, by omega⟩
    by_cases hx : x = 0
    · subst hx
      simp only [spec_l01Num.l0, if_true, Bool.false_eq_true, if_false]
      exact congrArg some (dig_nil acc)
    · simp only [spec_l01Num.l0]
      rw [if_neg hx]
      have hm : Int.tmod x 10 = x % 10 := Int.tmod_eq_emod_of_nonneg h0
      have hq : Int.tdiv x 10 = x / 10 := Int.tdiv_eq_ediv_of_nonneg h0
      rw [hm, hq, if_neg (by omega), Base.wrap_in (x := 48 + x % 10) (by omega) (by omega), Base.wrap_in (x := x / 10) (by omega) (by omega), Int.emod_eq_of_lt (a := 48 + x % 10) (b := 256) (by omega) (by omega)]
      obtain ⟨s1, s2⟩ := str_one (48 + x % 10) (by omega) (by omega)
      simp only [Option.bind_some]
      rw [if_pos (by omega), ih (by omega) k (x / 10) (strOfNums [48 + x % 10] ++ acc) (by omega) (by rw [Int.pow_succ] at h1; omega) (by omega) (by rw [ByteArray.size_append, s2]; omega) (by omega)]
      congr 1
      apply Go.WideShapes.bytes_inj
      rw [Go.Joins.data_append, Go.Joins.data_append, Go.Joins.data_append, s1]
      have e1 : (x / 10).toNat = x.toNat / 10 := by omega
      have e2 : (48 + x % 10).toNat = 48 + x.toNat % 10 := by omega
      rw [e1, e2]
      show dig (x.toNat / 10) ++ ([UInt8.ofNat (48 + x.toNat % 10)] ++ acc.data.toList) = dig x.toNat ++ acc.data.toList
      rw [dig_step x.toNat (by omega), List.append_assoc]
theorem num_eq (x : Int) (h0 : 0 ≤ x) (h1 : x < 1000000000000) (k : Nat) (hk : 20 < k) : spec_l01Num.f k x = some (⟨(Lib.itoa x).toArray⟩ : ByteArray) := by
  have hi : Lib.itoa x = Lib.decDigits x.toNat := by unfold Lib.itoa; rw [if_neg (by omega)]
  unfold spec_l01Num.f
  by_cases hx : x = 0
  · subst hx
    rw [if_pos rfl, hi, show Int.toNat 0 = 0 from rfl, Lib.decDigits_one (by omega)]
    rfl
  · rw [if_neg hx, decide_eq_false (by omega), num_l0 12 (by omega) k x _ h0 (by omega) (by omega) (by show 0 + 12 ≤ 1000; omega) (by omega)]
    congr 1
    apply Go.WideShapes.bytes_inj
    rw [Go.Joins.data_append, hi]
    have : x.toNat ≠ 0 := by omega
    simp [dig, this]
theorem itoa_len (x : Int) (h0 : 0 ≤ x) (h1 : x < 1000000000000) : (Lib.itoa x).length ≤ 12 := by
  unfold Lib.itoa
  rw [if_neg (by omega)]
  by_cases hx : x.toNat = 0
  · rw [hx, Lib.decDigits_one (by omega)]
    simp
  · have := dig_len 12 x.toNat (by omega)
    unfold dig at this
    rw [if_neg hx] at this
    exact this
theorem size_of (l : List UInt8) : (⟨l.toArray⟩ : ByteArray).size = l.length := rfl

theorem number_eq (x : Int) (h0 : 0 ≤ x) (h1 : x < 1000000000000) : impl_number.f x = some (⟨(Lib.itoa x).toArray⟩ : ByteArray) := by
  unfold impl_number.f strconv_Itoa.f
  rw [if_pos (by omega), if_pos (by omega)]
  rfl

theorem words_eq (l : List ByteArray) (hl : l.length ≤ 10) (hs : ∀ x ∈ l, x.size ≤ 1000) : impl_words.f l = some (⟨(Lib.join (l.map (·.data.toList)) [32]).toArray⟩ : ByteArray) := by
  unfold impl_words.f strings_Join.f
  have hb : ∀ l : List ByteArray, (∀ x ∈ l, x.size ≤ 1000) → (Lib.joinTail [32] (l.map (·.data.toList))).length ≤ 1001 * l.length := by
    intro l
    induction l with
    | nil => intro _; simp [Lib.joinTail]
    | cons a l ih =>
      intro h
      have h1 := ih (fun x hx => h x (List.mem_cons_of_mem _ hx))
      have h2 := h a List.mem_cons_self
      have h3 := data_length a
      simp only [Lib.joinTail, List.map_cons, List.flatten_cons, List.length_append, List.length_cons, List.length_nil] at h1 ⊢
      omega
  have hlen : (Lib.join (l.map (·.data.toList)) [32]).length ≤ 20000 := by
    cases l with
    | nil => simp [Lib.join_nil]
    | cons a l =>
      have h1 := hb l (fun x hx => hs x (List.mem_cons_of_mem _ hx))
      have h2 := hs a List.mem_cons_self
      have h3 := data_length a
      rw [List.map_cons, Lib.join_cons, List.length_append]
      simp only [List.length_cons] at hl
      omega
  rw [if_pos (show (Lib.join (l.map (·.data.toList)) (⟨#[32]⟩ : ByteArray).data.toList).length ≤ 140737488355328 from Nat.le_trans hlen (by omega)), if_pos (by omega)]
  rfl

theorem name_size {s : ByteArray} (h : Base.nameB s = true) : s.size ≤ 12 := by
  simp only [Base.nameB, Bool.and_eq_true, decide_eq_true_eq] at h
  omega

/-- the digits behind the point: three, without the trailing zeros -/
def d3 (r : Int) : List Int := [48 + r / 100, 48 + r % 100 / 10, 48 + r % 10]
def tailN (r : Int) : Nat := if r % 10 ≠ 0 then 3 else if r % 100 ≠ 0 then 2 else 1
def fracL (r : Int) : List UInt8 := ((d3 r).take (tailN r)).map fun n => UInt8.ofNat n.toNat
def milliL (u : Int) : List UInt8 := if u % 1000 = 0 then Lib.itoa (u / 1000) else Lib.itoa (u / 1000) ++ (46 :: fracL (u % 1000))
def milliV (v : Int) : List UInt8 := if v < 0 then 45 :: milliL (-v) else milliL v
theorem frac_len (r : Int) : (fracL r).length ≤ 3 := by
  unfold fracL d3
  simp
  omega
theorem take3 (a b c : Int) : ([a, b, c] : List Int).take 3 = [a, b, c] ∧ ([a, b, c] : List Int).take 2 = [a, b] ∧ ([a, b, c] : List Int).take 1 = [a] := ⟨rfl, rfl, rfl⟩
theorem spec_strip (x : ByteArray) (r : Int) (h0 : 0 < r) (h1 : r < 1000) (hx : x.size ≤ 1000) (k : Nat) (hk : 3 < k) :
    spec_MilliText.l0 k x (d3 r) 3 = some ((x ++ (⟨#[46]⟩ : ByteArray)) ++ strOfNums ((d3 r).take (tailN r))) := by
  obtain ⟨k, rfl⟩ : ∃ m, k = m + 1 := ⟨k - 1, by omega⟩
  obtain ⟨k, rfl⟩ : ∃ m, k = m + 1 := ⟨k - 1, by omega⟩
  obtain ⟨k, rfl⟩ : ∃ m, k = m + 1 := ⟨k - 1, by omega⟩
  have e1 : (⟨#[46]⟩ : ByteArray).size = 1 := rfl
  have hl : ((d3 r).length : Int) = 3 := rfl
  have w2 : wrap64 (3 - 1) = 2 := by unfold wrap64; omega
  have w1 : wrap64 (2 - 1) = 1 := by unfold wrap64; omega
  have w0 : wrap64 (1 - 1) = 0 := by unfold wrap64; omega
  have r2 : rd (d3 r) 2 = 48 + r % 10 := rfl
  have r1 : rd (d3 r) 1 = 48 + r % 100 / 10 := rfl
  have r0 : rd (d3 r) 0 = 48 + r / 100 := rfl
  have hs : ∀ n : Nat, n ≤ 3 → (strOfNums ((d3 r).take n)).size ≤ 3 := by
    intro n hn
    unfold strOfNums d3
    show (List.toArray _).size ≤ 3
    simp
    omega
  have fin : ∀ n : Nat, n ≤ 3 → (if x.size + 1 ≤ 9223372036854775807 then (if 0 ≤ ((n : Nat) : Int) then (if ((n : Nat) : Int) ≤ ((d3 r).length : Int) then ((some ((d3 r).take ((n : Nat) : Int).toNat : List Int)).bind fun y126 => (if (x ++ (⟨#[46]⟩ : ByteArray)).size + (strOfNums y126).size ≤ 9223372036854775807 then (some ((x ++ (⟨#[46]⟩ : ByteArray)) ++ (strOfNums y126))) else (none))) else (none)) else (none)) else (none)) = some ((x ++ (⟨#[46]⟩ : ByteArray)) ++ strOfNums ((d3 r).take n)) := by
    intro n hn
    have := hs n hn
    rw [if_pos (by omega), if_pos (by omega), if_pos (by omega)]
    simp only [Option.bind_some, Int.toNat_natCast]
    rw [if_pos (by rw [ByteArray.size_append, e1]; omega)]
  by_cases c2 : r % 10 = 0
  · by_cases c1 : r % 100 = 0
    · have ht : tailN r = 1 := by unfold tailN; rw [if_neg (by omega), if_neg (by omega)]
      simp only [spec_MilliText.l0, w2, w1, w0, hl, r2, r1, r0]
      rw [if_pos (by omega), if_pos (by omega), if_pos (by omega), if_pos (by omega), if_pos (by omega), if_pos (by omega), if_pos (by omega), if_pos (by omega), if_neg (by omega), ht]
      exact fin 1 (by omega)
    · have ht : tailN r = 2 := by unfold tailN; rw [if_neg (by omega), if_pos c1]
      simp only [spec_MilliText.l0, w2, w1, hl, r2, r1]
      rw [if_pos (by omega), if_pos (by omega), if_pos (by omega), if_pos (by omega), if_pos (by omega), if_neg (by omega), ht]
      exact fin 2 (by omega)
  · have ht : tailN r = 3 := by unfold tailN; rw [if_pos c2]
    simp only [spec_MilliText.l0, w2, hl, r2]
    rw [if_pos (by omega), if_pos (by omega), if_neg (by omega), ht]
    exact fin 3 (by omega)
theorem spec_Milli_j0 (u : Int) (out : ByteArray) (h0 : 0 ≤ u) (h1 : u ≤ 9000000000000) (ho : out.size ≤ 1) (k : Nat) (hk : 30 < k) : spec_MilliText.j0 k u out = some (⟨(out.data.toList ++ milliL u).toArray⟩ : ByteArray) := by
  obtain ⟨k, rfl⟩ : ∃ m, k = m + 1 := ⟨k - 1, by omega⟩
  have q1 : Int.tdiv u 1000 = u / 1000 := Int.tdiv_eq_ediv_of_nonneg h0
  have q2 : Int.tmod u 1000 = u % 1000 := Int.tmod_eq_emod_of_nonneg h0
  have q3 : Int.tmod u 100 = u % 100 := Int.tmod_eq_emod_of_nonneg h0
  have q4 : Int.tmod u 10 = u % 10 := Int.tmod_eq_emod_of_nonneg h0
  have q5 : Int.tdiv (u % 1000) 100 = u % 1000 / 100 := Int.tdiv_eq_ediv_of_nonneg (by omega)
  have q6 : Int.tdiv (u % 100) 10 = u % 100 / 10 := Int.tdiv_eq_ediv_of_nonneg (by omega)
  simp only [spec_MilliText.j0, q1, q2, q3, q4, q5, q6]
  rw [Base.wrap_in (x := u / 1000) (by omega) (by omega), num_eq (u / 1000) (by omega) (by omega) k (by omega)]
  have hlen := itoa_len (u / 1000) (by omega) (by omega)
  have hN : (⟨(Lib.itoa (u / 1000)).toArray⟩ : ByteArray).size = (Lib.itoa (u / 1000)).length := rfl
  simp only [Option.bind_some]
  rw [if_pos (by omega)]
  unfold milliL
  by_cases hm : u % 1000 = 0
  · rw [if_pos hm, if_pos hm]
    exact congrArg some (Go.WideShapes.bytes_inj (Go.Joins.data_append _ _))
  · rw [if_neg hm, if_neg hm]
    have e : ([(wrap64 (48 + wrap64 (u % 1000 / 100))) % 256, (wrap64 (48 + wrap64 (u % 100 / 10))) % 256, (wrap64 (48 + u % 10)) % 256] : List Int) = d3 (u % 1000) := by
      rw [Base.wrap_in (x := u % 1000 / 100) (by omega) (by omega), Base.wrap_in (x := u % 100 / 10) (by omega) (by omega), Base.wrap_in (x := 48 + u % 1000 / 100) (by omega) (by omega), Base.wrap_in (x := 48 + u % 100 / 10) (by omega) (by omega), Base.wrap_in (x := 48 + u % 10) (by omega) (by omega)]
      unfold d3
      rw [show u % 1000 % 100 = u % 100 by omega, show u % 1000 % 10 = u % 10 by omega, Int.emod_eq_of_lt (a := 48 + u % 1000 / 100) (b := 256) (by omega) (by omega), Int.emod_eq_of_lt (a := 48 + u % 100 / 10) (b := 256) (by omega) (by omega), Int.emod_eq_of_lt (a := 48 + u % 10) (b := 256) (by omega) (by omega)]
    rw [e, spec_strip _ (u % 1000) (by omega) (by omega) (by rw [ByteArray.size_append]; omega) k (by omega)]
    congr 1
    apply Go.WideShapes.bytes_inj
    simp only [Go.Joins.data_append]
    unfold fracL strOfNums
    simp
theorem itoa_thousand (r : Int) (h0 : 0 ≤ r) (h1 : r < 1000) : Lib.itoa (1000 + r) = 49 :: (d3 r).map fun n => UInt8.ofNat n.toNat := by
  obtain ⟨n, rfl⟩ := Int.eq_ofNat_of_zero_le h0
  have e0 : (1000 + (n : Int)).toNat = 1000 + n := by omega
  unfold Lib.itoa d3
  rw [if_neg (by omega), e0]
  rw [Lib.decDigits, dif_neg (by omega), Lib.decDigits, dif_neg (by omega), Lib.decDigits, dif_neg (by omega), Lib.decDigits, dif_pos (by omega)]
  have a1 : 48 + (1000 + n) / 10 / 10 / 10 = 49 := by omega
  have a2 : (48 + (n : Int) / 100).toNat = 48 + (1000 + n) / 10 / 10 % 10 := by omega
  have a3 : (48 + (n : Int) % 100 / 10).toNat = 48 + (1000 + n) / 10 % 10 := by omega
  have a4 : (48 + (n : Int) % 10).toNat = 48 + (1000 + n) % 10 := by omega
  simp only [List.map_cons, List.map_nil, a1, a2, a3, a4]
  rfl
theorem digit_ne (x : Int) (h0 : 0 ≤ x) (h1 : x < 10) : (UInt8.ofNat (48 + x).toNat == 48) = decide (x = 0) := by
  obtain ⟨n, rfl⟩ := Int.eq_ofNat_of_zero_le h0
  have hn : n < 10 := by omega
  have e : (48 + (n : Int)).toNat = 48 + n := by omega
  rw [e]
  have : ∀ m : Fin 10, (UInt8.ofNat (48 + m.val) == 48) = decide (m.val = 0) := by decide
  have h := this ⟨n, hn⟩
  rw [h]
  simp
theorem trim_d3 (r : Int) (h0 : 0 < r) (h1 : r < 1000) : Lib.trimRightB ((d3 r).map fun n => UInt8.ofNat n.toNat) 48 = fracL r := by
  unfold Lib.trimRightB fracL d3 tailN
  have z1 := digit_ne (r % 10) (by omega) (by omega)
  have z2 := digit_ne (r % 100 / 10) (by omega) (by omega)
  have z3 := digit_ne (r / 100) (by omega) (by omega)
  simp only [List.map_cons, List.map_nil, List.reverse_cons, List.reverse_nil, List.nil_append, List.cons_append]
  by_cases c2 : r % 10 = 0
  · by_cases c1 : r % 100 = 0
    · have c0 : ¬ r / 100 = 0 := by omega
      have c1' : r % 100 / 10 = 0 := by omega
      simp [List.dropWhile_cons, z1, z2, z3, c2, c1, c1', c0]
    · have c1' : ¬ r % 100 / 10 = 0 := by omega
      simp [List.dropWhile_cons, z1, z2, c2, c1, c1']
  · simp [List.dropWhile_cons, z1, c2]
theorem impl_Milli_j0 (u : Int) (out : ByteArray) (h0 : 0 ≤ u) (h1 : u ≤ 9000000000000) (ho : out.size ≤ 1) (k : Nat) (hk : 0 < k) : impl_MilliText.j0 k u out = some (⟨(out.data.toList ++ milliL u).toArray⟩ : ByteArray) := by
  obtain ⟨k, rfl⟩ : ∃ m, k = m + 1 := ⟨k - 1, by omega⟩
  have q1 : Int.tdiv u 1000 = u / 1000 := Int.tdiv_eq_ediv_of_nonneg h0
  have q2 : Int.tmod u 1000 = u % 1000 := Int.tmod_eq_emod_of_nonneg h0
  simp only [impl_MilliText.j0, q1, q2]
  have it : ∀ x : Int, 0 ≤ x → x ≤ 9000000000000 → strconv_Itoa.f x = some (⟨(Lib.itoa x).toArray⟩ : ByteArray) := by
    intro x g0 g1
    unfold strconv_Itoa.f
    rw [if_pos (by omega), if_pos (by omega)]
  rw [Base.wrap_in (x := u / 1000) (by omega) (by omega), Base.wrap_in (x := 1000 + u % 1000) (by omega) (by omega), it (u / 1000) (by omega) (by omega), it (1000 + u % 1000) (by omega) (by omega)]
  have hlen := itoa_len (u / 1000) (by omega) (by omega)
  have hN : (⟨(Lib.itoa (u / 1000)).toArray⟩ : ByteArray).size = (Lib.itoa (u / 1000)).length := rfl
  have e1 : (⟨#[46]⟩ : ByteArray).size = 1 := rfl
  simp only [Option.bind_some]
  rw [if_pos (by omega)]
  unfold milliL
  by_cases hm : u % 1000 = 0
  · rw [if_pos hm, if_pos hm]
    exact congrArg some (Go.WideShapes.bytes_inj (Go.Joins.data_append _ _))
  · rw [if_neg hm, if_neg hm, if_pos (by rw [ByteArray.size_append]; omega)]
    have e := itoa_thousand (u % 1000) (by omega) (by omega)
    have hsz : (⟨(Lib.itoa (1000 + u % 1000)).toArray⟩ : ByteArray).size = 4 := by rw [e]; rfl
    have hex : ((⟨(Lib.itoa (1000 + u % 1000)).toArray⟩ : ByteArray).extract 1 4).data.toList = (d3 (u % 1000)).map fun n => UInt8.ofNat n.toNat := by
      rw [Lib.extract_data, e]
      simp [d3]
    rw [hsz, if_pos (by omega)]
    unfold strings_TrimRight.f
    have hfl := frac_len (u % 1000)
    rw [if_pos rfl, if_pos (by rw [← data_length, hex]; simp [d3]), hex, trim_d3 (u % 1000) (by omega) (by omega)]
    simp only [Option.bind_some]
    have hF : (⟨(fracL (u % 1000)).toArray⟩ : ByteArray).size = (fracL (u % 1000)).length := rfl
    rw [if_pos (by rw [ByteArray.size_append, ByteArray.size_append, e1]; omega)]
    congr 1
    apply Go.WideShapes.bytes_inj
    simp only [Go.Joins.data_append]
    simp
theorem spec_value_eq (a : Int) : spec_l01Value.f a = some (decide (-1000000000 ≤ a ∧ a ≤ 1000000000)) := by
  unfold spec_l01Value.f
  simp only [spec_in_eq, Option.bind_some]
theorem impl_value_eq (a : Int) : impl_isValue.f a = some (decide (-1000000000 ≤ a ∧ a ≤ 1000000000)) := by
  unfold impl_isValue.f
  simp only [impl_in_eq, Option.bind_some]
def milliB (v : Int) : ByteArray := if -1000000000 ≤ v ∧ v ≤ 1000000000 then ⟨(milliV v).toArray⟩ else ⟨#[]⟩
theorem spec_Milli_eq (v : Int) (k : Nat) (hk : 30 < k) : spec_MilliText.f k v = some (milliB v) := by
  unfold spec_MilliText.f milliB
  rw [spec_value_eq]
  simp only [Option.bind_some]
  by_cases h : -1000000000 ≤ v ∧ v ≤ 1000000000
  · rw [if_pos (decide_eq_true h), if_pos h]
    unfold milliV
    by_cases hn : v < 0
    · rw [if_pos hn, if_pos hn, Base.wrap_in (x := -v) (by omega) (by omega), spec_Milli_j0 (-v) _ (by omega) (by omega) (by decide) k hk]
      rfl
    · rw [if_neg hn, if_neg hn, spec_Milli_j0 v _ (by omega) (by omega) (by decide) k hk]
      rfl
  · rw [decide_eq_false h, if_neg (by simp), if_neg h]
theorem impl_Milli_eq (v : Int) (k : Nat) (hk : 0 < k) : impl_MilliText.f k v = some (milliB v) := by
  unfold impl_MilliText.f milliB
  rw [impl_value_eq]
  simp only [Option.bind_some]
  by_cases h : -1000000000 ≤ v ∧ v ≤ 1000000000
  · rw [if_pos (decide_eq_true h), if_pos h]
    unfold milliV
    by_cases hn : v < 0
    · rw [if_pos hn, if_pos hn, Base.wrap_in (x := -v) (by omega) (by omega), impl_Milli_j0 (-v) _ (by omega) (by omega) (by decide) k hk]
      rfl
    · rw [if_neg hn, if_neg hn, impl_Milli_j0 v _ (by omega) (by omega) (by decide) k hk]
      rfl
  · rw [decide_eq_false h, if_neg (by simp), if_neg h]
theorem milli_size (v : Int) : (milliB v).size ≤ 20 := by
  unfold milliB
  by_cases h : -1000000000 ≤ v ∧ v ≤ 1000000000
  · rw [if_pos h]
    show (milliV v).length ≤ 20
    have hL : ∀ u : Int, 0 ≤ u → u ≤ 1000000000 → (milliL u).length ≤ 16 := by
      intro u g0 g1
      have h1 := itoa_len (u / 1000) (by omega) (by omega)
      have h2 := frac_len (u % 1000)
      unfold milliL
      split
      · omega
      · simp
        omega
    unfold milliV
    split
    · have := hL (-v) (by omega) (by omega)
      simp
      omega
    · have := hL v (by omega) (by omega)
      omega
  · rw [if_neg h]
    decide


/-- How the reference's ParseMilli runs over the letters: the number so far and where the point stood; none at a letter that does not fit. -/
def runM : Nat → Option Nat → Nat → List UInt8 → Option (Nat × Option Nat)
  | a, dot, _, [] => some (a, dot)
  | a, dot, i, c :: r => if c.toNat = 45 ∧ i = 0 then runM a dot (i + 1) r else if c.toNat = 46 ∧ dot = none then runM a (some i) (i + 1) r
    else if 48 ≤ c.toNat ∧ c.toNat ≤ 57 then runM (10 * a + c.toNat - 48) dot (i + 1) r else none
def dotI (d : Option Nat) : Int := match d with
  | none => -1
  | some p => (p : Int)
/-- What stands behind the loop. -/
def finM (k : Nat) (s : ByteArray) (a : Nat) (dot : Option Nat) : Option (Int × Bool) :=
  if dotI dot ≥ 0 then spec_ParseMilli.j3 k s (a : Int) (wrap64 (wrap64 ((s.size : Int) - dotI dot) - 1)) else spec_ParseMilli.j3 k s (a : Int) 0
theorem run_l0 (s : ByteArray) (hs : s.size ≤ 13) (d : Nat) : ∀ (k i a : Nat) (dot : Option Nat), i + d = s.size → a < 10 ^ i → (∀ p, dot = some p → p < i) → 3 * d < k →
    ∃ k', k ≤ k' + 3 * d + 1 ∧ spec_ParseMilli.l0 k s (a : Int) (dotI dot) (i : Int) = match runM a dot i (s.data.toList.drop i) with
      | none => some (0, false)
      | some (a', dot') => finM k' s a' dot' := by
  have hL : s.data.toList.length = s.size := data_length s
  induction d with
  | zero =>
    intro k i a dot h1 h2 hdot hk
    obtain ⟨k, rfl⟩ : ∃ m, k = m + 1 := ⟨k - 1, by omega⟩
    refine ⟨k, by omega, ?_⟩
    rw [List.drop_of_length_le (by omega), spec_ParseMilli.l0, if_neg (by omega)]
    rfl
  | succ d ih =>
    intro k i a dot h1 h2 hdot hk
    obtain ⟨k, rfl⟩ : ∃ m, k = m + 3 := ⟨k - 3, by omega⟩
    have hi : i < s.data.toList.length := by omega
    have hdrop : s.data.toList.drop i = s.data.toList[i] :: s.data.toList.drop (i + 1) := List.drop_eq_getElem_cons hi
    have hp : 10 ^ i ≤ 10 ^ 12 := Nat.pow_le_pow_right (by omega) (by omega)
    have ha : a < 1000000000000 := by omega
    have e1 : wrap64 ((i : Int) + 1) = ((i + 1 : Nat) : Int) := by rw [Base.wrap_in (by omega) (by omega)]; omega
    have hbt := Base.bt_get s i hi
    rw [hdrop]
    generalize hc : s.data.toList[i] = c at *
    rw [spec_ParseMilli.l0, if_pos (by omega), if_pos (by omega), hbt]
    by_cases c45 : c.toNat = 45 ∧ i = 0
    · rw [if_pos (by omega), beq_iff_eq.2 (show ((i : Int)) = 0 by omega), spec_ParseMilli.j1, if_pos rfl, e1]
      obtain ⟨k', h4, h5⟩ := ih (k + 1) (i + 1) a dot (by omega) (by rw [Nat.pow_succ]; omega) (fun p hp => by have := hdot p hp; omega) (by omega)
      refine ⟨k', by omega, h5.trans ?_⟩
      rw [runM, if_pos c45]
    · have hj1 : (if ((c.toNat : Nat) : Int) = 45 then spec_ParseMilli.j1 (k + 2) s (a : Int) (dotI dot) (i : Int) ((i : Int) == 0) else spec_ParseMilli.j1 (k + 2) s (a : Int) (dotI dot) (i : Int) false) = spec_ParseMilli.j1 (k + 2) s (a : Int) (dotI dot) (i : Int) false := by
        by_cases h : ((c.toNat : Nat) : Int) = 45
        · rw [if_pos h, beq_eq_false_iff_ne.2 (show ¬ ((i : Int)) = 0 by omega)]
        · rw [if_neg h]
      rw [hj1, spec_ParseMilli.j1, if_neg (by simp), if_pos (by omega), if_pos (by omega), hbt]
      by_cases c46 : c.toNat = 46 ∧ dot = none
      · obtain ⟨c46, rfl⟩ := c46
        have hd0 : decide (dotI none < 0) = true := rfl
        rw [if_pos (by omega), hd0, spec_ParseMilli.j2, if_pos rfl, e1]
        obtain ⟨k', h4, h5⟩ := ih k (i + 1) a (some i) (by omega) (by rw [Nat.pow_succ]; omega) (fun p hp => by have := Option.some.inj hp; omega) (by omega)
        refine ⟨k', by omega, (show _ = _ from h5).trans ?_⟩
        rw [runM, if_neg c45, if_pos ⟨c46, rfl⟩]
      · have hj2 : (if ((c.toNat : Nat) : Int) = 46 then spec_ParseMilli.j2 (k + 1) s (a : Int) (dotI dot) (i : Int) (decide (dotI dot < 0)) else spec_ParseMilli.j2 (k + 1) s (a : Int) (dotI dot) (i : Int) false) = spec_ParseMilli.j2 (k + 1) s (a : Int) (dotI dot) (i : Int) false := by
          by_cases h : ((c.toNat : Nat) : Int) = 46
          · cases dot with
            | none => exact absurd ⟨by omega, rfl⟩ c46
            | some p =>
              rw [if_pos h, decide_eq_false (show ¬ dotI (some p) < 0 by simp [dotI])]
          · rw [if_neg h]
        rw [hj2, spec_ParseMilli.j2, if_neg (by simp), if_pos (by omega), if_pos (by omega), hbt]
        by_cases cd : 48 ≤ c.toNat ∧ c.toNat ≤ 57
        · have e : wrap64 (wrap64 (wrap64 (10 * (a : Int)) + wrap64 ((c.toNat : Nat) : Int)) - 48) = ((10 * a + c.toNat - 48 : Nat) : Int) := by
            rw [Base.wrap_in (x := 10 * (a : Int)) (by omega) (by omega), Base.wrap_in (x := ((c.toNat : Nat) : Int)) (by omega) (by omega), Base.wrap_in (x := 10 * (a : Int) + ((c.toNat : Nat) : Int)) (by omega) (by omega), Base.wrap_in (by omega) (by omega)]
            omega
          rw [if_pos (by omega), if_pos (by omega), e, e1]
          obtain ⟨k', h4, h5⟩ := ih k (i + 1) (10 * a + c.toNat - 48) dot (by omega) (by rw [Nat.pow_succ]; omega) (fun p hp => by have := hdot p hp; omega) (by omega)
          refine ⟨k', by omega, h5.trans ?_⟩
          rw [runM, if_neg c45, if_neg c46, if_pos cd]
        · refine ⟨k, by omega, ?_⟩
          have hr : runM a dot i (c :: s.data.toList.drop (i + 1)) = none := by rw [runM, if_neg c45, if_neg c46, if_neg cd]
          rw [hr]
          by_cases g : ((c.toNat : Nat) : Int) ≥ 48
          · rw [if_pos g, if_neg (by omega)]
          · rw [if_neg g]


theorem run_bounds : ∀ (l : List UInt8) (a i : Nat) (dot : Option Nat) (a' : Nat) (dot' : Option Nat), a < 10 ^ i → runM a dot i l = some (a', dot') → a' < 10 ^ (i + l.length) ∧ ∀ p, dot' = some p → dot = some p ∨ p < i + l.length
  | [], a, i, dot, a', dot', ha, h => by
    simp only [runM, Option.some.injEq, Prod.mk.injEq] at h
    obtain ⟨rfl, rfl⟩ := h
    exact ⟨ha, fun p hp => .inl hp⟩
  | c :: l, a, i, dot, a', dot', ha, h => by
    rw [runM] at h
    have e : i + (c :: l).length = (i + 1) + l.length := by simp; omega
    have ha1 : a < 10 ^ (i + 1) := by rw [Nat.pow_succ]; omega
    rw [e]
    by_cases c1 : c.toNat = 45 ∧ i = 0
    · rw [if_pos c1] at h
      exact run_bounds l a (i + 1) dot a' dot' ha1 h
    · rw [if_neg c1] at h
      by_cases c2 : c.toNat = 46 ∧ dot = none
      · rw [if_pos c2] at h
        obtain ⟨h1, h2⟩ := run_bounds l a (i + 1) (some i) a' dot' ha1 h
        refine ⟨h1, fun p hp => .inr ?_⟩
        rcases h2 p hp with h3 | h3
        · have := Option.some.inj h3
          omega
        · exact h3
      · rw [if_neg c2] at h
        by_cases c3 : 48 ≤ c.toNat ∧ c.toNat ≤ 57
        · rw [if_pos c3] at h
          exact run_bounds l _ (i + 1) dot a' dot' (by rw [Nat.pow_succ]; omega) h
        · rw [if_neg c3] at h
          cases h
/-- The end of the reference's ParseMilli. -/
def endM (s : ByteArray) (x : Int) : Int × Bool :=
  let v := if 0 < s.size ∧ bt s 0 = 45 then -x else x
  if (milliB v).toList = s.toList then (if s.toList = [] then (0, false) else (v, true)) else (0, false)
theorem end_l1 (s : ByteArray) (x : Int) (h0 : -9000000000000000000 ≤ x) (h1 : x ≤ 9000000000000000000) (k : Nat) (hk : 40 < k) : spec_ParseMilli.l1 k s x 3 = some (endM s x) := by
  obtain ⟨k, rfl⟩ : ∃ m, k = m + 2 := ⟨k - 2, by omega⟩
  rw [spec_ParseMilli.l1, if_neg (by omega)]
  unfold endM
  by_cases h : (s.size : Int) > 0
  · rw [if_pos h, if_pos (by omega)]
    by_cases hb : bt s 0 = 45
    · rw [beq_iff_eq.2 hb, spec_ParseMilli.j5, if_pos rfl, Base.wrap_in (by omega) (by omega), spec_Milli_eq _ k (by omega)]
      simp only [Option.bind_some]
      rw [if_pos (show 0 < s.size ∧ bt s 0 = 45 from ⟨by omega, hb⟩)]
      split
      · split <;> rfl
      · rfl
    · rw [beq_eq_false_iff_ne.2 hb, spec_ParseMilli.j5, if_neg (by simp), spec_Milli_eq _ k (by omega)]
      simp only [Option.bind_some]
      rw [if_neg (show ¬ (0 < s.size ∧ bt s 0 = 45) from fun e => hb e.2)]
      split
      · split <;> rfl
      · rfl
  · rw [if_neg h, spec_ParseMilli.j5, if_neg (by simp), spec_Milli_eq _ k (by omega)]
    simp only [Option.bind_some]
    rw [if_neg (show ¬ (0 < s.size ∧ bt s 0 = 45) from fun e => h (by omega))]
    split
    · split <;> rfl
    · rfl
theorem grow_l1 (s : ByteArray) (d : Nat) : ∀ (k b a : Nat), b + d = 3 → a < 10 ^ (13 + b) → 40 + d < k → spec_ParseMilli.l1 k s (a : Int) (b : Int) = some (endM s ((a * 10 ^ d : Nat) : Int)) := by
  induction d with
  | zero =>
    intro k b a h1 h2 hk
    obtain rfl : b = 3 := by omega
    have h3 : a < 10000000000000000 := h2
    rw [show ((3 : Nat) : Int) = 3 from rfl, end_l1 s (a : Int) (by omega) (by omega) k (by omega), Nat.pow_zero, Nat.mul_one]
  | succ d ih =>
    intro k b a h1 h2 hk
    obtain ⟨k, rfl⟩ : ∃ m, k = m + 1 := ⟨k - 1, by omega⟩
    have hp : 10 ^ (13 + b) ≤ 10 ^ 15 := Nat.pow_le_pow_right (by omega) (by omega)
    have ha : a < 1000000000000000 := by omega
    have e1 : wrap64 ((b : Int) + 1) = ((b + 1 : Nat) : Int) := by rw [Base.wrap_in (by omega) (by omega)]; omega
    have e2 : wrap64 (10 * (a : Int)) = ((a * 10 : Nat) : Int) := by rw [Base.wrap_in (by omega) (by omega)]; omega
    rw [spec_ParseMilli.l1, if_pos (by omega), e1, e2, ih k (b + 1) (a * 10) (by omega) (by rw [show 13 + (b + 1) = 13 + b + 1 by omega, Nat.pow_succ]; omega) (by omega)]
    rw [Nat.pow_succ, Nat.mul_assoc, Nat.mul_comm 10]
/-- How many letters stand behind the point. -/
def tailM (s : ByteArray) (dot : Option Nat) : Nat := match dot with
  | none => 0
  | some p => s.size - p - 1
theorem fin_eq (s : ByteArray) (hs : s.size ≤ 13) (a : Nat) (dot : Option Nat) (ha : a < 10000000000000) (hdot : ∀ p, dot = some p → p < s.size) (k : Nat) (hk : 50 < k) :
    finM k s a dot = some (if tailM s dot > 3 then (0, false) else endM s ((a * 10 ^ (3 - tailM s dot) : Nat) : Int)) := by
  obtain ⟨k, rfl⟩ : ∃ m, k = m + 1 := ⟨k - 1, by omega⟩
  have hb : (if dotI dot ≥ 0 then spec_ParseMilli.j3 (k + 1) s (a : Int) (wrap64 (wrap64 ((s.size : Int) - dotI dot) - 1)) else spec_ParseMilli.j3 (k + 1) s (a : Int) 0) = spec_ParseMilli.j3 (k + 1) s (a : Int) ((tailM s dot : Nat) : Int) := by
    cases dot with
    | none =>
      rw [show dotI none = -1 from rfl, if_neg (by omega), show tailM s none = 0 from rfl, Int.natCast_zero]
    | some p =>
      have hp := hdot p rfl
      have e : dotI (some p) = (p : Int) := rfl
      rw [e, if_pos (by omega), Base.wrap_in (x := (s.size : Int) - p) (by omega) (by omega), Base.wrap_in (by omega) (by omega)]
      congr 1
      simp only [tailM]
      omega
  unfold finM
  rw [hb, spec_ParseMilli.j3]
  by_cases h : tailM s dot > 3
  · rw [if_pos (by omega), if_pos h]
  · rw [if_neg (by omega), if_neg h]
    exact grow_l1 s (3 - tailM s dot) k (tailM s dot) a (by omega) (by
      have h5 : 10 ^ 13 ≤ 10 ^ (13 + tailM s dot) := Nat.pow_le_pow_right (by omega) (by omega)
      have h6 : (10 : Nat) ^ 13 = 10000000000000 := by decide
      omega) (by omega)
/-- What the reference's ParseMilli answers. -/
def readM (s : ByteArray) : Int × Bool := if s.size > 13 then (0, false) else match runM 0 none 0 s.data.toList with
  | none => (0, false)
  | some (a, dot) => if tailM s dot > 3 then (0, false) else endM s ((a * 10 ^ (3 - tailM s dot) : Nat) : Int)
theorem read_eq (s : ByteArray) (k : Nat) (hk : 100 < k) : spec_ParseMilli.f k s = some (readM s) := by
  unfold spec_ParseMilli.f readM
  by_cases h : s.size > 13
  · rw [if_pos (by omega), if_pos h]
  · rw [if_neg (by omega), if_neg h]
    obtain ⟨k', h1, h2⟩ := run_l0 s (by omega) s.size k 0 0 none (by omega) (by simp) (fun p hp => by cases hp) (by omega)
    have h3 : spec_ParseMilli.l0 k s 0 (-1) 0 = _ := h2
    rw [h3, List.drop_zero]
    cases hr : runM 0 none 0 s.data.toList with
    | none => rfl
    | some x =>
      obtain ⟨a, dot⟩ := x
      obtain ⟨b1, b2⟩ := run_bounds _ 0 0 none a dot (by simp) hr
      rw [data_length] at b1 b2
      exact fin_eq s (by omega) a dot (by
        have h5 : 10 ^ (0 + s.size) ≤ 10 ^ 13 := Nat.pow_le_pow_right (by omega) (by omega)
        have h6 : (10 : Nat) ^ 13 = 10000000000000 := by decide
        omega) (fun p hp => by
        rcases b2 p hp with e | e
        · cases e
        · omega) k' (by omega)
theorem readM_ok {s : ByteArray} {v : Int} (h : readM s = (v, true)) : milliB v = s := by
  have he : ∀ x, endM s x = (v, true) → milliB v = s := by
    intro x hx
    unfold endM at hx
    by_cases h1 : (milliB (if 0 < s.size ∧ bt s 0 = 45 then -x else x)).toList = s.toList
    · rw [if_pos h1] at hx
      by_cases h2 : s.toList = []
      · rw [if_pos h2] at hx
        simp at hx
      · rw [if_neg h2] at hx
        simp only [Prod.mk.injEq, and_true] at hx
        rw [← hx]
        rw [ByteArray.toList_eq, ByteArray.toList_eq] at h1
        exact Go.WideShapes.bytes_inj h1
    · rw [if_neg h1] at hx
      simp at hx
  unfold readM at h
  split at h
  · simp at h
  · split at h
    · simp at h
    · split at h
      · simp at h
      · exact he _ h


theorem run_digits : ∀ (l : List UInt8) (a i : Nat) (dot : Option Nat) (r : List UInt8), (∀ c ∈ l, 48 ≤ c.toNat ∧ c.toNat ≤ 57) → runM a dot i (l ++ r) = runM (Text.val a l) dot (i + l.length) r
  | [], a, i, dot, r, _ => rfl
  | c :: l, a, i, dot, r, h => by
    have hc := h c List.mem_cons_self
    rw [List.cons_append, runM, if_neg (by omega), if_neg (by omega), if_pos hc, run_digits l _ (i + 1) dot r (fun x hx => h x (List.mem_cons_of_mem _ hx))]
    have e : 10 * a + c.toNat - 48 = a * 10 + (c.toNat - 48) := by omega
    rw [e, List.length_cons, show i + 1 + l.length = i + (l.length + 1) by omega]
    rfl
theorem frac_digits (r : Int) (h0 : 0 ≤ r) (h1 : r < 1000) : ∀ c ∈ fracL r, 48 ≤ c.toNat ∧ c.toNat ≤ 57 := by
  intro c hc
  unfold fracL at hc
  obtain ⟨n, hn, rfl⟩ := List.mem_map.1 hc
  have hm := List.mem_of_mem_take hn
  simp only [d3, List.mem_cons, List.not_mem_nil, or_false] at hm
  rw [UInt8.toNat_ofNat']
  rcases hm with rfl | rfl | rfl <;> omega
theorem frac_val (q r : Int) (hq : 0 ≤ q) (h0 : 0 < r) (h1 : r < 1000) : (fracL r).length ≤ 3 ∧ 0 < (fracL r).length ∧ Text.val q.toNat (fracL r) * 10 ^ (3 - (fracL r).length) = (1000 * q + r).toNat := by
  have hn : ∀ x : Int, 0 ≤ x → x < 10 → (UInt8.ofNat (48 + x).toNat).toNat - 48 = x.toNat := by
    intro x g0 g1
    rw [UInt8.toNat_ofNat']
    omega
  have a0 := hn (r / 100) (by omega) (by omega)
  have a1 := hn (r % 100 / 10) (by omega) (by omega)
  have a2 := hn (r % 10) (by omega) (by omega)
  unfold fracL tailN
  by_cases c2 : r % 10 = 0
  · by_cases c1 : r % 100 = 0
    · rw [if_neg (by omega), if_neg (by omega)]
      simp only [d3, List.take, List.map_cons, List.map_nil, List.length_cons, List.length_nil, Text.val, List.foldl_cons, List.foldl_nil, a0]
      omega
    · rw [if_neg (by omega), if_pos c1]
      simp only [d3, List.take, List.map_cons, List.map_nil, List.length_cons, List.length_nil, Text.val, List.foldl_cons, List.foldl_nil, a0, a1]
      omega
  · rw [if_pos c2]
    simp only [d3, List.take, List.map_cons, List.map_nil, List.length_cons, List.length_nil, Text.val, List.foldl_cons, List.foldl_nil, a0, a1, a2]
    omega
theorem itoa_len7 (b : Int) (h0 : 0 ≤ b) (h1 : b < 10000000) : (Lib.itoa b).length ≤ 7 := by
  unfold Lib.itoa
  rw [if_neg (by omega)]
  by_cases hx : b.toNat = 0
  · rw [hx, Lib.decDigits_one (by omega)]
    simp
  · have := dig_len 7 b.toNat (by omega)
    unfold dig at this
    rw [if_neg hx] at this
    exact this
theorem itoa_digits (b : Int) (h0 : 0 ≤ b) : (∀ c ∈ Lib.itoa b, 48 ≤ c.toNat ∧ c.toNat ≤ 57) ∧ Text.val 0 (Lib.itoa b) = b.toNat ∧ 0 < (Lib.itoa b).length := by
  unfold Lib.itoa
  rw [if_neg (by omega)]
  exact ⟨Text.digits_mem _, Text.digits_val _, List.length_pos_iff.2 (Text.digits_ne _)⟩
theorem run_milli (v : Int) (h0 : 0 ≤ v) : runM 0 none 0 (milliL v) = some (if v % 1000 = 0 then ((v / 1000).toNat, none) else (Text.val (v / 1000).toNat (fracL (v % 1000)), some (Lib.itoa (v / 1000)).length)) := by
  obtain ⟨d1, d2, d3⟩ := itoa_digits (v / 1000) (by omega)
  unfold milliL
  by_cases h : v % 1000 = 0
  · rw [if_pos h, if_pos h]
    have e := run_digits (Lib.itoa (v / 1000)) 0 0 none [] d1
    rw [List.append_nil, d2] at e
    rw [e]
    rfl
  · rw [if_neg h, if_neg h, run_digits _ 0 0 none _ d1, d2, runM, if_neg (by simp), if_pos ⟨rfl, rfl⟩]
    have e := run_digits (fracL (v % 1000)) (v / 1000).toNat (0 + (Lib.itoa (v / 1000)).length + 1) (some (0 + (Lib.itoa (v / 1000)).length)) [] (frac_digits _ (by omega) (by omega))
    rw [List.append_nil] at e
    rw [e, Nat.zero_add]
    rfl
theorem milli_bytes (v : Int) (h0 : 0 ≤ v) (h1 : v ≤ 1000000000) : milliB v = Text.ofL (milliL v) := by
  unfold milliB milliV
  rw [if_pos (by omega), if_neg (by omega)]
  rfl
theorem milli_head (v : Int) (h0 : 0 ≤ v) : ∃ c l, milliL v = c :: l ∧ 48 ≤ c.toNat ∧ c.toNat ≤ 57 := by
  obtain ⟨d1, _, d3⟩ := itoa_digits (v / 1000) (by omega)
  unfold milliL
  cases hl : Lib.itoa (v / 1000) with
  | nil => rw [hl] at d3; simp at d3
  | cons c l =>
    have hc := d1 c (by rw [hl]; exact List.mem_cons_self)
    split
    · exact ⟨c, l, rfl, hc⟩
    · exact ⟨c, _, rfl, hc⟩
theorem milli_len (v : Int) (h0 : 0 ≤ v) (h1 : v ≤ 1000000000) : (milliL v).length ≤ 11 := by
  have h2 := itoa_len7 (v / 1000) (by omega) (by omega)
  have h3 := frac_len (v % 1000)
  unfold milliL
  split
  · omega
  · simp
    omega
theorem endM_milli (v : Int) (h0 : 0 ≤ v) (h1 : v ≤ 1000000000) : endM (Text.ofL (milliL v)) v = (v, true) := by
  obtain ⟨c, l, hl, hc⟩ := milli_head v (by omega)
  have hb : ¬ (0 < (Text.ofL (milliL v)).size ∧ bt (Text.ofL (milliL v)) 0 = 45) := by
    rintro ⟨_, e⟩
    have hp : 0 < (Text.ofL (milliL v)).data.toList.length := by rw [Text.ofL_data, hl]; simp
    have e2 := Base.bt_get (Text.ofL (milliL v)) 0 hp
    have e3 : (Text.ofL (milliL v)).data.toList[0] = c := by simp [Text.ofL_data, hl]
    rw [e3] at e2
    have e4 : bt (Text.ofL (milliL v)) 0 = (c.toNat : Int) := e2
    omega
  unfold endM
  simp only [if_neg hb, milli_bytes v h0 h1, if_true]
  rw [if_neg (by rw [ByteArray.toList_eq, Text.ofL_data, hl]; simp)]
theorem readM_milli (v : Int) (h0 : 0 ≤ v) (h1 : v ≤ 1000000000) : readM (Text.ofL (milliL v)) = (v, true) := by
  have hl := milli_len v h0 h1
  have hE := endM_milli v h0 h1
  have hsz : (Text.ofL (milliL v)).size = (milliL v).length := rfl
  unfold readM
  rw [if_neg (by omega), Text.ofL_data, run_milli v (by omega)]
  by_cases h : v % 1000 = 0
  · rw [if_pos h]
    show (if tailM (Text.ofL (milliL v)) none > 3 then (0, false) else endM (Text.ofL (milliL v)) (((v / 1000).toNat * 10 ^ (3 - tailM (Text.ofL (milliL v)) none) : Nat) : Int)) = (v, true)
    have et : tailM (Text.ofL (milliL v)) none = 0 := rfl
    have e : (((v / 1000).toNat * 10 ^ (3 - 0) : Nat) : Int) = v := by
      rw [show (10 : Nat) ^ (3 - 0) = 1000 by decide]
      omega
    rw [et, if_neg (by omega), e, hE]
  · rw [if_neg h]
    obtain ⟨f1, f2, f3⟩ := frac_val (v / 1000) (v % 1000) (by omega) (by omega) (by omega)
    have ml : (milliL v).length = (Lib.itoa (v / 1000)).length + ((fracL (v % 1000)).length + 1) := by
      unfold milliL
      rw [if_neg h]
      simp
    show (if tailM (Text.ofL (milliL v)) (some (Lib.itoa (v / 1000)).length) > 3 then (0, false) else endM (Text.ofL (milliL v)) ((Text.val (v / 1000).toNat (fracL (v % 1000)) * 10 ^ (3 - tailM (Text.ofL (milliL v)) (some (Lib.itoa (v / 1000)).length)) : Nat) : Int)) = (v, true)
    have et : tailM (Text.ofL (milliL v)) (some (Lib.itoa (v / 1000)).length) = (fracL (v % 1000)).length := by
      simp only [tailM]
      omega
    rw [et, if_neg (by omega), f3]
    have e : (((1000 * (v / 1000) + v % 1000).toNat : Nat) : Int) = v := by omega
    rw [e, hE]


theorem atoi_val (l : List UInt8) (hne : 0 < l.length) (hd : ∀ c ∈ l, 48 ≤ c.toNat ∧ c.toNat ≤ 57) (hv : Text.val 0 l < 1000000000000000000) : Lib.atoiAll l = .ok ((Text.val 0 l : Nat) : Int) := by
  have hp := Text.parse_ok l 0 hd hv
  cases l with
  | nil => simp at hne
  | cons c r =>
    have h1 := hd c List.mem_cons_self
    unfold Lib.atoiAll
    simp only []
    rw [if_neg (by omega)]
    unfold Lib.parseMag
    rw [if_neg (by simp), hp]
    simp only []
    rw [if_neg (by omega), if_neg (by omega), if_neg (by omega)]
theorem bare_milli (v : Int) (h0 : 0 ≤ v) : bare (Text.ofL (milliL v)) = Text.ofL (milliL v) := by
  obtain ⟨c, l, hl, hc⟩ := milli_head v h0
  unfold bare
  rw [Text.ofL_data, hl]
  unfold Lib.trimPrefix
  rw [if_neg]
  · rfl
  · have : ¬ (45 : UInt8) = c := fun e => by rw [← e] at hc; exact absurd hc (by decide)
    simp [Lib.hasPrefix, List.isPrefixOf, this]
theorem index_step (b c : UInt8) (l : List UInt8) (h : b ≠ c) : Lib.index (b :: l) [c] = if Lib.index l [c] == -1 then -1 else Lib.index l [c] + 1 := by
  have hp : ([c] : List UInt8).isPrefixOf (b :: l) = false := by simp [List.isPrefixOf, Ne.symm h]
  rw [Lib.index, hp]
  simp
theorem index_miss (c : UInt8) : ∀ l : List UInt8, c ∉ l → Lib.index l [c] = -1
  | [], _ => by simp [Lib.index]
  | b :: l, h => by
    rw [index_step b c l (fun e => h (by rw [e]; exact List.mem_cons_self)), index_miss c l (fun hm => h (List.mem_cons_of_mem _ hm))]
    rfl
theorem index_hit (c : UInt8) (r : List UInt8) : ∀ l : List UInt8, c ∉ l → Lib.index (l ++ c :: r) [c] = (l.length : Int)
  | [], _ => by
    rw [List.nil_append, Lib.index]
    simp [List.isPrefixOf]
  | b :: l, h => by
    rw [List.cons_append, index_step b c _ (fun e => h (by rw [e]; exact List.mem_cons_self)), index_hit c r l (fun hm => h (List.mem_cons_of_mem _ hm)), if_neg (by simp)]
    simp
theorem milliN_of (s A B : ByteArray) (v : Int) (h1 : ahead (bare s) = A) (h2 : behind (bare s) = B) (hb : bare s = s) (hA : A.size ≤ 7) (hB : B.size ≤ 3) (hv : Lib.atoiAll (A ++ (B ++ ⟨#[48, 48, 48]⟩).extract 0 3).data.toList = .ok v) : milliN s = some v := by
  unfold milliN digitsOf
  rw [h1, h2, if_neg (by omega), if_neg (by omega), hv]
  simp only []
  rw [hb, if_pos rfl]
theorem milliN_milli (v : Int) (h0 : 0 ≤ v) (h1 : v ≤ 1000000000) : milliN (Text.ofL (milliL v)) = some v := by
  obtain ⟨d1, d2, d3'⟩ := itoa_digits (v / 1000) (by omega)
  have hl4 := itoa_len7 (v / 1000) (by omega) (by omega)
  have hno : (46 : UInt8) ∉ Lib.itoa (v / 1000) := fun hm => absurd (d1 _ hm) (by decide)
  have hb := bare_milli v (by omega)
  by_cases h : v % 1000 = 0
  · have hm : milliL v = Lib.itoa (v / 1000) := by unfold milliL; rw [if_pos h]
    have hc : Lib.cut (milliL v) [46] = (Lib.itoa (v / 1000), [], false) := by
      unfold Lib.cut
      rw [hm, index_miss 46 _ hno, if_neg (by omega)]
    refine milliN_of _ (Text.ofL (Lib.itoa (v / 1000))) (Text.ofL []) v ?_ ?_ hb (by rw [Text.ofL_size]; omega) (by decide) ?_
    · unfold ahead
      rw [hb, Text.ofL_data, hc]
      rfl
    · unfold behind
      rw [hb, Text.ofL_data, hc]
      rfl
    · have e : (Text.ofL (Lib.itoa (v / 1000)) ++ (Text.ofL [] ++ (⟨#[48, 48, 48]⟩ : ByteArray)).extract 0 3).data.toList = Lib.itoa (v / 1000) ++ [48, 48, 48] := by
        rw [Go.Joins.data_append, Lib.extract_data, Go.Joins.data_append]
        rfl
      have hv : Text.val 0 (Lib.itoa (v / 1000) ++ [48, 48, 48]) = v.toNat := by
        have e2 : Text.val 0 (Lib.itoa (v / 1000) ++ [48, 48, 48]) = Text.val (Text.val 0 (Lib.itoa (v / 1000))) [48, 48, 48] := by simp [Text.val, List.foldl_append]
        rw [e2, d2]
        simp only [Text.val, List.foldl_cons, List.foldl_nil, show (48 : UInt8).toNat = 48 from rfl]
        omega
      rw [e, atoi_val _ (by simp) (by
        intro c hc
        rcases List.mem_append.1 hc with hc | hc
        · exact d1 c hc
        · simp only [List.mem_cons, List.not_mem_nil, or_false] at hc
          rcases hc with rfl | rfl | rfl <;> decide) (by rw [hv]; omega), hv]
      congr 1
      omega
  · have hm : milliL v = Lib.itoa (v / 1000) ++ 46 :: fracL (v % 1000) := by unfold milliL; rw [if_neg h]
    have hf := frac_len (v % 1000)
    have hc : Lib.cut (milliL v) [46] = (Lib.itoa (v / 1000), fracL (v % 1000), true) := by
      unfold Lib.cut
      rw [hm, index_hit 46 _ _ hno, if_pos (by omega)]
      simp
    have hpad : ((fracL (v % 1000)) ++ [48, 48, 48]).take 3 = (d3 (v % 1000)).map fun n => UInt8.ofNat n.toNat := by
      unfold fracL tailN
      by_cases c2 : v % 1000 % 10 = 0
      · by_cases c1 : v % 1000 % 100 = 0
        · rw [if_neg (by omega), if_neg (by omega)]
          have c1' : v % 1000 % 100 / 10 = 0 := by omega
          have c1q : v % 100 / 10 = 0 := by omega
          have c2q : v % 10 = 0 := by omega
          simp [d3, c1', c2, c1q, c2q]
        · rw [if_neg (by omega), if_pos c1]
          have c2q : v % 10 = 0 := by omega
          simp [d3, c2, c2q]
      · rw [if_pos c2]
        simp [d3]
    refine milliN_of _ (Text.ofL (Lib.itoa (v / 1000))) (Text.ofL (fracL (v % 1000))) v ?_ ?_ hb (by rw [Text.ofL_size]; omega) (by rw [Text.ofL_size]; omega) ?_
    · unfold ahead
      rw [hb, Text.ofL_data, hc]
      rfl
    · unfold behind
      rw [hb, Text.ofL_data, hc]
      rfl
    · have e : (Text.ofL (Lib.itoa (v / 1000)) ++ (Text.ofL (fracL (v % 1000)) ++ (⟨#[48, 48, 48]⟩ : ByteArray)).extract 0 3).data.toList = Lib.itoa (v / 1000) ++ (d3 (v % 1000)).map fun n => UInt8.ofNat n.toNat := by
        rw [Go.Joins.data_append, Lib.extract_data, Go.Joins.data_append, Text.ofL_data, Text.ofL_data, List.drop_zero, ← hpad]
      have hn : ∀ x : Int, 0 ≤ x → x < 10 → (UInt8.ofNat (48 + x).toNat).toNat = 48 + x.toNat := by
        intro x g0 g1
        rw [UInt8.toNat_ofNat']
        omega
      have a0 := hn (v % 1000 / 100) (by omega) (by omega)
      have a1 := hn (v % 1000 % 100 / 10) (by omega) (by omega)
      have a2 := hn (v % 1000 % 10) (by omega) (by omega)
      have hv : Text.val 0 (Lib.itoa (v / 1000) ++ (d3 (v % 1000)).map fun n => UInt8.ofNat n.toNat) = v.toNat := by
        have e2 : Text.val 0 (Lib.itoa (v / 1000) ++ (d3 (v % 1000)).map fun n => UInt8.ofNat n.toNat) = Text.val (Text.val 0 (Lib.itoa (v / 1000))) ((d3 (v % 1000)).map fun n => UInt8.ofNat n.toNat) := by simp [Text.val, List.foldl_append]
        rw [e2, d2]
        simp only [d3, List.map_cons, List.map_nil, Text.val, List.foldl_cons, List.foldl_nil, a0, a1, a2]
        omega
      rw [e, atoi_val _ (by simp [d3]) (by
        intro c hc
        rcases List.mem_append.1 hc with hc | hc
        · exact d1 c hc
        · simp only [d3, List.map_cons, List.map_nil, List.mem_cons, List.not_mem_nil, or_false] at hc
          rcases hc with rfl | rfl | rfl <;> omega) (by rw [hv]; omega), hv]
      congr 1
      omega


/-- l01Num has an answer at every number of up to eleven digits. -/
theorem num_some_l0 (d : Nat) (hd : d ≤ 100) : ∀ (k : Nat) (x : Int) (acc : ByteArray) (ng : Bool), -10 ^ d < x → x < 10 ^ d → -9223372036854775807 ≤ x → x ≤ 9223372036854775807 → acc.size + d ≤ 1000 → d < k → ∃ t, spec_l01Num.l0 k x acc ng = some t := by
  induction d with
  | zero =>
    intro k x acc ng h0 h1 _ _ hs hk
    obtain ⟨k, rfl⟩ : ∃ m, k = m + 1 := ⟨k - 1, by omega⟩
    obtain rfl : x = 0 := by simp at h0 h1; omega
    simp only [spec_l01Num.l0, if_true]
    cases ng <;> simp <;> omega
  | succ d ih =>
    intro k x acc ng h0 h1 h2 h3 hs hk
    obtain ⟨k, rfl⟩ : ∃ m, k = m + 1 := ⟨k - 1, by omega⟩
    by_cases hx : x = 0
    · subst hx
      simp only [spec_l01Num.l0, if_true]
      cases ng <;> simp <;> omega
    · simp only [spec_l01Num.l0]
      rw [if_neg hx]
      have hq0 : -10 ^ d < Int.tdiv x 10 := by
        rw [Int.pow_succ] at h0
        by_cases hp : 0 ≤ x
        · rw [Int.tdiv_eq_ediv_of_nonneg hp]
          have : (0 : Int) < 10 ^ d := Int.pow_pos (by omega)
          omega
        · have e : Int.tdiv x 10 = -((-x) / 10) := by
            have := Int.neg_tdiv (a := -x) (b := 10)
            rw [Int.neg_neg] at this
            rw [this, Int.tdiv_eq_ediv_of_nonneg (by omega)]
          rw [e]
          omega
      have hq1 : Int.tdiv x 10 < 10 ^ d := by
        rw [Int.pow_succ] at h1
        by_cases hp : 0 ≤ x
        · rw [Int.tdiv_eq_ediv_of_nonneg hp]
          omega
        · have e : Int.tdiv x 10 = -((-x) / 10) := by
            have := Int.neg_tdiv (a := -x) (b := 10)
            rw [Int.neg_neg] at this
            rw [this, Int.tdiv_eq_ediv_of_nonneg (by omega)]
          rw [e]
          have : (0 : Int) < 10 ^ d := Int.pow_pos (by omega)
          omega
      have hq2 : -9223372036854775807 ≤ Int.tdiv x 10 ∧ Int.tdiv x 10 ≤ 9223372036854775807 := by
        by_cases hp : 0 ≤ x
        · rw [Int.tdiv_eq_ediv_of_nonneg hp]
          omega
        · have e : Int.tdiv x 10 = -((-x) / 10) := by
            have := Int.neg_tdiv (a := -x) (b := 10)
            rw [Int.neg_neg] at this
            rw [this, Int.tdiv_eq_ediv_of_nonneg (by omega)]
          rw [e]
          omega
      rw [Base.wrap_in (x := Int.tdiv x 10) (by omega) (by omega)]
      have hone : ∀ z : Int, (strOfNums [z % 256]).size = 1 := fun z => (str_one (z % 256) (by omega) (by omega)).2
      by_cases hm : Int.tmod x 10 < 0
      · rw [if_pos hm]
        simp only [Option.bind_some]
        rw [if_pos (by rw [hone]; omega)]
        exact ih (by omega) k _ _ ng hq0 hq1 hq2.1 hq2.2 (by rw [ByteArray.size_append, hone]; omega) (by omega)
      · rw [if_neg hm]
        simp only [Option.bind_some]
        rw [if_pos (by rw [hone]; omega)]
        exact ih (by omega) k _ _ ng hq0 hq1 hq2.1 hq2.2 (by rw [ByteArray.size_append, hone]; omega) (by omega)
theorem num_some (x : Int) (h0 : -1000000000000 < x) (h1 : x < 1000000000000) (k : Nat) (hk : 20 < k) : ∃ t, spec_l01Num.f k x = some t := by
  unfold spec_l01Num.f
  by_cases hx : x = 0
  · rw [if_pos hx]
    exact ⟨_, rfl⟩
  · rw [if_neg hx]
    exact num_some_l0 12 (by omega) k x _ _ (by omega) (by omega) (by omega) (by omega) (by show 0 + 12 ≤ 1000; omega) (by omega)
/-- What stands behind the loop of l01Read. -/
def readEnd (k : Nat) (w ds : ByteArray) (x : Int) : Option (Int × Bool) :=
  if (ds.size : Int) < (w.size : Int) then ((spec_l01Num.f k (wrap64 (-x))).bind fun t => (some (wrap64 (-x), (t.toList == w.toList)))) else ((spec_l01Num.f k x).bind fun t => (some (x, (t.toList == w.toList))))
theorem read_l0 (w ds : ByteArray) (hds : ds.size ≤ 10) (d : Nat) : ∀ (k i a : Nat), i + d = ds.size → a < 10 ^ i → d < k →
    ((∃ c ∈ ds.data.toList.drop i, ¬ (48 ≤ c.toNat ∧ c.toNat ≤ 57)) ∧ spec_l01Read.l0 k w ds (a : Int) (i : Int) = some (0, false)) ∨
    ((∀ c ∈ ds.data.toList.drop i, 48 ≤ c.toNat ∧ c.toNat ≤ 57) ∧ ∃ k', k ≤ k' + d + 1 ∧ spec_l01Read.l0 k w ds (a : Int) (i : Int) = readEnd k' w ds (Text.val a (ds.data.toList.drop i) : Nat)) := by
  have hL : ds.data.toList.length = ds.size := data_length ds
  induction d with
  | zero =>
    intro k i a h1 h2 hk
    obtain ⟨k, rfl⟩ : ∃ m, k = m + 1 := ⟨k - 1, by omega⟩
    right
    rw [List.drop_of_length_le (by omega)]
    refine ⟨by simp, k, by omega, ?_⟩
    simp only [spec_l01Read.l0]
    rw [if_neg (by omega)]
    rfl
  | succ d ih =>
    intro k i a h1 h2 hk
    obtain ⟨k, rfl⟩ : ∃ m, k = m + 1 := ⟨k - 1, by omega⟩
    have hi : i < ds.data.toList.length := by omega
    have hdrop : ds.data.toList.drop i = ds.data.toList[i] :: ds.data.toList.drop (i + 1) := List.drop_eq_getElem_cons hi
    simp only [spec_l01Read.l0]
    rw [if_pos (by omega), if_pos (by omega), Base.bt_get ds i hi]
    by_cases hlo : ((ds.data.toList[i].toNat : Nat) : Int) < 48
    · left
      rw [if_pos hlo]
      exact ⟨⟨_, by rw [hdrop]; exact List.mem_cons_self, by omega⟩, rfl⟩
    · by_cases hhi : ((ds.data.toList[i].toNat : Nat) : Int) > 57
      · left
        rw [if_neg hlo, if_pos hhi]
        exact ⟨⟨_, by rw [hdrop]; exact List.mem_cons_self, by omega⟩, rfl⟩
      · rw [if_neg hlo, if_neg hhi]
        have hp : 10 ^ i ≤ 10 ^ 9 := Nat.pow_le_pow_right (by omega) (by omega)
        have ha : a < 1000000000 := by omega
        generalize hc : ds.data.toList[i] = c at *
        have e : wrap64 (wrap64 (wrap64 (10 * (a : Int)) + wrap64 ((c.toNat : Nat) : Int)) - 48) = ((a * 10 + (c.toNat - 48) : Nat) : Int) := by
          rw [Base.wrap_in (x := 10 * (a : Int)) (by omega) (by omega), Base.wrap_in (x := ((c.toNat : Nat) : Int)) (by omega) (by omega), Base.wrap_in (x := 10 * (a : Int) + ((c.toNat : Nat) : Int)) (by omega) (by omega), Base.wrap_in (by omega) (by omega)]
          omega
        have e1 : wrap64 ((i : Int) + 1) = ((i + 1 : Nat) : Int) := by rw [Base.wrap_in (by omega) (by omega)]; omega
        rw [e, e1]
        rcases ih k (i + 1) (a * 10 + (c.toNat - 48)) (by omega) (by rw [Nat.pow_succ]; omega) (by omega) with ⟨⟨x, hx, hn⟩, h⟩ | ⟨h3, k', h4, h5⟩
        · left
          exact ⟨⟨x, by rw [hdrop]; exact List.mem_cons_of_mem _ hx, hn⟩, h⟩
        · right
          refine ⟨?_, k', by omega, ?_⟩
          · rw [hdrop]
            intro x hx
            rcases List.mem_cons.1 hx with rfl | hx
            · omega
            · exact h3 x hx
          · rw [h5, hdrop]
            rfl
theorem readEnd_some (k : Nat) (w ds : ByteArray) (a : Nat) (ha : a < 10000000000) (hk : 20 < k) : ∃ b ok, readEnd k w ds (a : Int) = some (b, ok) := by
  unfold readEnd
  rw [Base.wrap_in (by omega) (by omega)]
  obtain ⟨t1, e1⟩ := num_some (-(a : Int)) (by omega) (by omega) k hk
  obtain ⟨t2, e2⟩ := num_some (a : Int) (by omega) (by omega) k hk
  rw [e1, e2]
  by_cases h : (ds.size : Int) < (w.size : Int)
  · rw [if_pos h]
    exact ⟨_, _, rfl⟩
  · rw [if_neg h]
    exact ⟨_, _, rfl⟩
theorem read_j1_some (k : Nat) (w ds : ByteArray) (hk : 50 < k) : ∃ b ok, spec_l01Read.j1 k w ds = some (b, ok) := by
  obtain ⟨k, rfl⟩ : ∃ m, k = m + 1 := ⟨k - 1, by omega⟩
  simp only [spec_l01Read.j1, spec_in_eq, Option.bind_some]
  by_cases h : 1 ≤ (ds.size : Int) ∧ (ds.size : Int) ≤ 10
  · rw [if_pos (decide_eq_true h)]
    rcases read_l0 w ds (by omega) ds.size k 0 0 (by omega) (by simp) (by omega) with ⟨_, e⟩ | ⟨hd, k', h4, e⟩
    · exact ⟨_, _, e⟩
    · have hv := Text.val_lt (ds.data.toList.drop 0) 0 0 (by simp) hd
      have hl : (ds.data.toList.drop 0).length = ds.size := by rw [List.drop_zero]; exact data_length ds
      have hp : 10 ^ (0 + (ds.data.toList.drop 0).length) ≤ 10 ^ 10 := Nat.pow_le_pow_right (by omega) (by omega)
      obtain ⟨b, ok, e2⟩ := readEnd_some k' w ds (Text.val 0 (ds.data.toList.drop 0)) (by omega) (by omega)
      exact ⟨b, ok, e.trans e2⟩
  · rw [if_neg (by simpa using h)]
    exact ⟨_, _, rfl⟩
theorem read_some (k : Nat) (w : ByteArray) (hk : 60 < k) : ∃ b ok, spec_l01Read.f k w = some (b, ok) := by
  unfold spec_l01Read.f
  obtain ⟨k, rfl⟩ : ∃ m, k = m + 1 := ⟨k - 1, by omega⟩
  by_cases h : (w.size : Int) > 0
  · rw [if_pos h, if_pos (by omega)]
    simp only [spec_l01Read.j0]
    by_cases hb : (bt w 0 == 45) = true
    · rw [if_pos hb, if_pos (by omega)]
      exact read_j1_some k w _ (by omega)
    · rw [if_neg hb]
      exact read_j1_some k w _ (by omega)
  · rw [if_neg h]
    simp only [spec_l01Read.j0]
    rw [if_neg (by simp)]
    exact read_j1_some k w _ (by omega)
theorem digs_len (b : Int) (h0 : 0 ≤ b) (h1 : b < 10000000000) : (Lib.itoa b).length ≤ 10 := by
  unfold Lib.itoa
  rw [if_neg (by omega)]
  by_cases hx : b.toNat = 0
  · rw [hx, Lib.decDigits_one (by omega)]
    simp
  · have := dig_len 10 b.toNat (by omega)
    unfold dig at this
    rw [if_neg hx] at this
    exact this
/-- A numeral is read as its number. -/
theorem read_itoa (k : Nat) (b : Int) (h0 : 0 ≤ b) (h1 : b < 10000000000) (hk : 60 < k) : spec_l01Read.f k (Text.ofL (Lib.itoa b)) = some (b, true) := by
  have hi : Lib.itoa b = Lib.decDigits b.toNat := by unfold Lib.itoa; rw [if_neg (by omega)]
  have hlen := digs_len b h0 h1
  have hne := Text.digits_ne b.toNat
  have hmem := Text.digits_mem b.toNat
  have hval := Text.digits_val b.toNat
  rw [hi] at hlen ⊢
  generalize hl : Lib.decDigits b.toNat = l at *
  have hsz : (Text.ofL l).size = l.length := rfl
  have hpos : 0 < l.length := List.length_pos_iff.2 hne
  obtain ⟨k, rfl⟩ : ∃ m, k = m + 2 := ⟨k - 2, by omega⟩
  unfold spec_l01Read.f
  have hb : (bt (Text.ofL l) 0 == 45) = false := by
    have e := Base.bt_get (Text.ofL l) 0 (by rw [Text.ofL_data]; exact hpos)
    have hc := hmem (l[0]) (List.getElem_mem hpos)
    have e2 : (Text.ofL l).data.toList[0]'(by rw [Text.ofL_data]; exact hpos) = l[0] := rfl
    rw [e2] at e
    have e3 : bt (Text.ofL l) 0 = (l[0].toNat : Int) := e
    rw [e3]
    exact beq_eq_false_iff_ne.2 (by omega)
  rw [if_pos (by omega), if_pos (by omega), hb]
  simp only [spec_l01Read.j0, spec_l01Read.j1, spec_in_eq, Option.bind_some]
  rw [if_neg (by simp), if_pos (by rw [decide_eq_true]; omega)]
  rcases read_l0 (Text.ofL l) (Text.ofL l) (by omega) l.length k 0 0 (by omega) (by simp) (by omega) with ⟨⟨c, hc, hn⟩, _⟩ | ⟨_, k', h4, e⟩
  · exact absurd (hmem c hc) hn
  · refine e.trans ?_
    unfold readEnd
    rw [if_neg (by omega), List.drop_zero, Text.ofL_data, hval]
    have e2 : ((b.toNat : Nat) : Int) = b := by omega
    rw [e2, num_eq b h0 (by omega) k' (by omega)]
    have : (⟨(Lib.itoa b).toArray⟩ : ByteArray) = Text.ofL l := by rw [hi]; rfl
    rw [this]
    simp


/-- A name holds no blank. -/
theorem name_chr (s : ByteArray) (d : Nat) : ∀ i : Nat, i + d = s.size → Base.nameRest s d i = true → ∀ c ∈ s.data.toList.drop i, c ≠ 32 := by
  have hL : s.data.toList.length = s.size := data_length s
  induction d with
  | zero =>
    intro i h1 _
    rw [List.drop_of_length_le (by omega)]
    simp
  | succ d ih =>
    intro i h1 h2
    have hi : i < s.data.toList.length := by omega
    rw [List.drop_eq_getElem_cons hi]
    simp only [Base.nameRest, Bool.and_eq_true] at h2
    have h3 := ih (i + 1) (by omega) (by have := h2.2; rw [show ((i + 1 : Nat) : Int) = (i : Int) + 1 by omega]; exact this)
    intro c hc
    rcases List.mem_cons.1 hc with rfl | hc
    · intro e
      have h4 := h2.1
      rw [Base.bt_get s i hi, e] at h4
      exact absurd h4 (by decide)
    · exact h3 c hc
theorem name_blank {s : ByteArray} (h : Base.nameB s = true) : (32 : UInt8) ∉ s.data.toList := by
  simp only [Base.nameB, Bool.and_eq_true] at h
  intro hm
  have := name_chr s s.size 0 (by omega) (by simpa using h.1) 32 (by simpa using hm)
  exact this rfl
theorem itoa_blank (b : Int) (h0 : 0 ≤ b) : (32 : UInt8) ∉ Lib.itoa b := by
  unfold Lib.itoa
  rw [if_neg (by omega)]
  intro hm
  have := Text.digits_mem _ _ hm
  exact absurd this (by decide)


theorem parts_l0 (s : ByteArray) (hs : s.size ≤ 10000) (c : UInt8) (d : Nat) : ∀ (k : Nat) (out : List ByteArray) (at_ i : Nat), at_ ≤ i → i + d = s.size → out.length + d ≤ 100000 → d + 1 < k →
    spec_l01Parts.l0 k s ((c.toNat : Nat) : Int) out (at_ : Int) (i : Int) = some (out ++ (Text.cutL c ((s.data.toList.drop at_).take (i - at_)) (s.data.toList.drop i)).map Text.ofL) := by
  have hL : s.data.toList.length = s.size := data_length s
  have hx : ∀ a b : Nat, s.extract a b = Text.ofL ((s.data.toList.drop a).take (b - a)) := fun a b => by
    apply Go.WideShapes.bytes_inj
    rw [Lib.extract_data]
    rfl
  induction d with
  | zero =>
    intro k out at_ i h1 h2 h3 hk
    obtain ⟨k, rfl⟩ : ∃ m, k = m + 2 := ⟨k - 2, by omega⟩
    obtain rfl : i = s.size := by omega
    rw [spec_l01Parts.l0, if_pos (by omega), if_pos rfl, if_pos (by omega), if_pos (by omega), if_pos (by omega), Base.wrap_in (by omega) (by omega), spec_l01Parts.l0, if_neg (by omega)]
    rw [Int.toNat_natCast, Int.toNat_natCast, hx, List.drop_of_length_le (i := s.size) (by omega)]
    simp [Text.cutL]
  | succ d ih =>
    intro k out at_ i h1 h2 h3 hk
    obtain ⟨k, rfl⟩ : ∃ m, k = m + 1 := ⟨k - 1, by omega⟩
    have hi : i < s.data.toList.length := by omega
    have e1 : ((i : Int) + 1) = ((i + 1 : Nat) : Int) := by omega
    have hdrop : s.data.toList.drop i = s.data.toList[i] :: s.data.toList.drop (i + 1) := List.drop_eq_getElem_cons hi
    rw [spec_l01Parts.l0, if_pos (by omega), if_neg (by omega), if_pos (by omega), if_pos (by omega), Base.bt_get s i hi, Base.wrap_in (by omega) (by omega), e1]
    by_cases hc : s.data.toList[i] = c
    · have hc2 : ((s.data.toList[i].toNat : Nat) : Int) = ((c.toNat : Nat) : Int) := by rw [hc]
      rw [if_pos hc2, if_pos (by omega), if_pos (by omega), if_pos (by omega), ih k _ (i + 1) (i + 1) (by omega) (by omega) (by simp; omega) (by omega)]
      rw [Int.toNat_natCast, Int.toNat_natCast, hx, hdrop, Text.cutL, if_pos hc, Nat.sub_self, List.take_zero]
      simp
    · have hc2 : ¬ ((s.data.toList[i].toNat : Nat) : Int) = ((c.toNat : Nat) : Int) := fun e => hc (by
        apply UInt8.toNat_inj.1
        omega)
      rw [if_neg hc2, ih k _ at_ (i + 1) (by omega) (by omega) (by omega) (by omega)]
      rw [hdrop, Text.cutL, if_neg hc]
      have e2 : (s.data.toList.drop at_).take (i + 1 - at_) = (s.data.toList.drop at_).take (i - at_) ++ [s.data.toList[i]] := by
        rw [show i + 1 - at_ = (i - at_) + 1 by omega, List.take_succ_eq_append_getElem (by simp; omega)]
        congr 2
        rw [List.getElem_drop]
        congr 1
        omega
      rw [e2]
theorem parts_eq (s : ByteArray) (hs : s.size ≤ 10000) (c : UInt8) (k : Nat) (hk : s.size + 1 < k) : spec_l01Parts.f k s ((c.toNat : Nat) : Int) = some ((Text.cutL c [] s.data.toList).map Text.ofL) := by
  unfold spec_l01Parts.f
  have h := parts_l0 s hs c s.size k [] 0 0 (by omega) (by omega) (by simp; omega) (by omega)
  simpa using h
theorem split_eq (s : ByteArray) (hs : s.size ≤ 2000000) (n : Int) : impl_split.f s n = some ((Text.cutL 32 [] s.data.toList).map Text.ofL, (((Text.cutL 32 [] s.data.toList).length : Int) == n)) := by
  unfold impl_split.f strings_Split.f
  rw [if_pos (by omega), if_pos (by decide), Text.splitB_cut s 32]
  simp
/-- The parts with the blank between. -/
def joinC : List (List UInt8) → List UInt8
  | [] => []
  | [x] => x
  | x :: y :: r => x ++ 32 :: joinC (y :: r)
theorem join_cut : ∀ (l acc : List UInt8), joinC (Text.cutL 32 acc l) = acc ++ l
  | [], acc => by simp [Text.cutL, joinC]
  | c :: l, acc => by
    rw [Text.cutL]
    by_cases h : c = 32
    · rw [if_pos h]
      have ih := join_cut l []
      have hne := Text.cutL_ne 32 l []
      cases hc : Text.cutL 32 [] l with
      | nil => rw [hc] at hne; simp at hne
      | cons y r =>
        rw [hc] at ih
        rw [joinC, ih, h]
        simp
    · rw [if_neg h, join_cut l (acc ++ [c])]
      simp

/-- What l01Read takes for a number is that number's text. -/
theorem read_ok (k : Nat) (w : ByteArray) (b : Int) (hk : 60 < k) (h : spec_l01Read.f k w = some (b, true)) (h0 : 0 ≤ b) (h1 : b ≤ 1000000000) : w = Text.ofL (Lib.itoa b) := by
  have hend : ∀ (k' : Nat) (ds : ByteArray) (x : Int), 20 < k' → readEnd k' w ds x = some (b, true) → w = Text.ofL (Lib.itoa b) := by
    intro k' ds x hk' he
    have key : ∀ z : Int, ((spec_l01Num.f k' z).bind fun t => (some (z, (t.toList == w.toList)))) = some (b, true) → w = Text.ofL (Lib.itoa b) := by
      intro z hz
      obtain ⟨t, ht, hz⟩ := Option.bind_eq_some_iff.1 hz
      simp only [Option.some.injEq, Prod.mk.injEq, beq_iff_eq] at hz
      obtain ⟨rfl, hz⟩ := hz
      rw [num_eq z h0 (by omega) k' (by omega)] at ht
      obtain rfl := Option.some.inj ht
      rw [ByteArray.toList_eq, ByteArray.toList_eq] at hz
      exact (Go.WideShapes.bytes_inj hz).symm
    unfold readEnd at he
    by_cases hs : (ds.size : Int) < (w.size : Int)
    · rw [if_pos hs] at he
      exact key _ he
    · rw [if_neg hs] at he
      exact key _ he
  have hj1 : ∀ (k' : Nat) (ds : ByteArray), 50 < k' → spec_l01Read.j1 k' w ds = some (b, true) → w = Text.ofL (Lib.itoa b) := by
    intro k' ds hk' he
    obtain ⟨k', rfl⟩ : ∃ m, k' = m + 1 := ⟨k' - 1, by omega⟩
    simp only [spec_l01Read.j1, spec_in_eq, Option.bind_some] at he
    by_cases hd : 1 ≤ (ds.size : Int) ∧ (ds.size : Int) ≤ 10
    · rw [if_pos (decide_eq_true hd)] at he
      rcases read_l0 w ds (by omega) ds.size k' 0 0 (by omega) (by simp) (by omega) with ⟨_, e⟩ | ⟨_, k2, h4, e⟩
      · have e2 : spec_l01Read.l0 k' w ds 0 0 = some (0, false) := e
        rw [e2] at he
        simp at he
      · have e2 : spec_l01Read.l0 k' w ds 0 0 = _ := e
        rw [e2] at he
        exact hend k2 ds _ (by omega) he
    · rw [if_neg (by simpa using hd)] at he
      simp at he
  unfold spec_l01Read.f at h
  obtain ⟨k, rfl⟩ : ∃ m, k = m + 1 := ⟨k - 1, by omega⟩
  by_cases hs : (w.size : Int) > 0
  · rw [if_pos hs, if_pos (by omega)] at h
    simp only [spec_l01Read.j0] at h
    by_cases hb : (bt w 0 == 45) = true
    · rw [if_pos hb, if_pos (by omega)] at h
      exact hj1 k _ (by omega) h
    · rw [if_neg hb] at h
      exact hj1 k _ (by omega) h
  · rw [if_neg hs] at h
    simp only [spec_l01Read.j0] at h
    rw [if_neg (by simp)] at h
    exact hj1 k _ (by omega) h

theorem isValue_eq (n : Int) : impl_isValue.f n = some (decide (-1000000000 ≤ n ∧ n ≤ 1000000000)) := by
  unfold impl_isValue.f
  rw [impl_in_eq]
  rfl
theorem milliText_eq (v : Int) (k : Nat) (hk : 40 < k) : impl_MilliText.f k v = some (milliB v) := impl_Milli_eq v k (by omega)
theorem implMilli_some (s : ByteArray) (hs : s.size < 4294967281) (k : Nat) (hk : 40 < k) : ∃ v ok, impl_ParseMilli.f k s = some (v, ok) := by
  unfold impl_ParseMilli.f
  rw [if_pos hs]
  cases milliN s with
  | none => exact ⟨_, _, rfl⟩
  | some m =>
    simp only [isValue_eq, Option.bind_some, milliText_eq m k hk]
    split
    · split
      · exact ⟨_, _, rfl⟩
      · exact ⟨_, _, rfl⟩
    · exact ⟨_, _, rfl⟩
theorem implMilli_milli (v : Int) (h0 : 0 ≤ v) (h1 : v ≤ 1000000000) (k : Nat) (hk : 40 < k) : impl_ParseMilli.f k (Text.ofL (milliL v)) = some (v, true) := by
  have hl := milli_len v h0 h1
  unfold impl_ParseMilli.f
  rw [if_pos (by rw [Text.ofL_size]; omega), milliN_milli v h0 h1]
  simp only [isValue_eq, Option.bind_some, milliText_eq v k hk]
  rw [if_pos (decide_eq_true (by omega)), milli_bytes v h0 h1, if_pos rfl]

theorem milli_blank (v : Int) (h0 : 0 ≤ v) : (32 : UInt8) ∉ milliL v := by
  have h1 := itoa_blank (v / 1000) (by omega)
  have h2 : (32 : UInt8) ∉ fracL (v % 1000) := fun hm => absurd (frac_digits (v % 1000) (by omega) (by omega) _ hm) (by decide)
  unfold milliL
  split
  · exact h1
  · intro hm
    rcases List.mem_append.1 hm with hm | hm
    · exact h1 hm
    · rcases List.mem_cons.1 hm with hm | hm
      · exact absurd hm (by decide)
      · exact h2 hm

end Go.Proofs.YtbbnlagdahickaaGreatDoor.Pure
