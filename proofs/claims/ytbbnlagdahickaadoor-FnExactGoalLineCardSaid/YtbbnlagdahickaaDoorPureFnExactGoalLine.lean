/- The pure half of FnExactGoalLine: the Lean functions of the program and of the reference agree, so the law's function answers true. Conditions: those of the statement, spelled at the theorem. -/
import Derived.Test.YtbbnlagdahickaaDoorOFnExactGoalLinex
import Derived.Test.YtbbnlagdahickaaDoorBase
namespace Go.Proofs.YtbbnlagdahickaaDoor.Pure
open Go.RowKit Go.Proofs.YtbbnlagdahickaaDoor.PFnExactGoalLine Go.Proofs.YtbbnlagdahickaaDoorW.PrintWords Go.Proofs.YtbbnlagdahickaaDoorW.PrintLast
set_option linter.unusedSimpArgs false
set_option linter.unusedVariables false

theorem spec_in_eq (a b c : Int) : spec_l01In.f a b c = some (decide (b ≤ a ∧ a ≤ c)) := by
  unfold spec_l01In.f
  by_cases h : b ≤ a <;> simp [h]
theorem impl_in_eq (a b c : Int) : impl_in.f a b c = some (decide (b ≤ a ∧ a ≤ c)) := by
  unfold impl_in.f
  by_cases h : b ≤ a <;> simp [h]

theorem str_one (c : Int) (h0 : 0 ≤ c) (h1 : c < 256) : (strOfNums [c]).data.toList = [UInt8.ofNat c.toNat] ∧ (strOfNums [c]).size = 1 := by
  unfold strOfNums
  constructor
  · simp
  · rfl
/-- the digits of a number above 0, nothing of 0 -/
def dig (u : Nat) : List UInt8 := if u = 0 then [] else Lib.decDigits u
theorem dig_step (u : Nat) (h : u ≠ 0) : dig u = dig (u / 10) ++ [UInt8.ofNat (48 + u % 10)] := by
  unfold dig
  rw [if_neg h]
  by_cases h1 : u < 10
  · rw [Lib.decDigits, dif_pos h1, if_pos (by omega), Nat.mod_eq_of_lt h1]
    rfl
  · rw [Lib.decDigits, dif_neg h1, if_neg (by omega)]
theorem dig_len (d : Nat) : ∀ u : Nat, u < 10 ^ d → (dig u).length ≤ d := by
  induction d with
  | zero =>
    intro u hu
    obtain rfl : u = 0 := by simp at hu; exact hu
    simp [dig]
  | succ d ih =>
    intro u hu
    by_cases h : u = 0
    · simp [dig, h]
    · rw [dig_step u h]
      have := ih (u / 10) (by rw [Nat.pow_succ] at hu; omega)
      simp
      exact this
theorem dig_nil (acc : ByteArray) : acc = (⟨(dig (0 : Int).toNat).toArray⟩ : ByteArray) ++ acc := by
  apply Go.WideShapes.bytes_inj
  rw [Go.Joins.data_append]
  simp [dig]
theorem num_l0 (d : Nat) (hd : d ≤ 100) : ∀ (k : Nat) (x : Int) (acc : ByteArray), 0 ≤ x → x < 10 ^ d → x ≤ 9223372036854775807 → acc.size + d ≤ 1000 → d < k → spec_l01Num.l0 k x acc false = some ((⟨(dig x.toNat).toArray⟩ : ByteArray) ++ acc) := by
  induction d with
  | zero =>
    intro k x acc h0 h1 h2 hs hk
    obtain ⟨k, rfl⟩ : ∃ m, k = m + 1 := ⟨k - 1, by omega⟩
    obtain rfl : x = 0 := by simp at h1; omega
    simp only [spec_l01Num.l0, if_true, Bool.false_eq_true, if_false]
    exact congrArg some (dig_nil acc)
  | succ d ih =>
    intro k x acc h0 h1 h2 hs hk
    obtain ⟨k, rfl⟩ : ∃ m, k = m + 1 := ⟨k - 1, by omega⟩
    by_cases hx : x = 0
    · subst hx
      simp only [spec_l01Num.l0, if_true, Bool.false_eq_true, if_false]
      exact congrArg some (dig_nil acc)
    · simp only [spec_l01Num.l0]
      rw [if_neg hx]
      have hm : Int.tmod x 10 = x % 10 := Int.tmod_eq_emod_of_nonneg h0
      have hq : Int.tdiv x 10 = x / 10 := Int.tdiv_eq_ediv_of_nonneg h0
      rw [hm, hq, if_neg (by omega), Base.wrap_in (x := 48 + x % 10) (by omega) (by omega), Base.wrap_in (x := x / 10) (by omega) (by omega), Int.emod_eq_of_lt (a := 48 + x % 10) (b := 256) (by omega) (by omega)]
      obtain ⟨s1, s2⟩ := str_one (48 + x % 10) (by omega) (by omega)
      simp only [Option.bind_some]
      rw [if_pos (by omega), ih (by omega) k (x / 10) (strOfNums [48 + x % 10] ++ acc) (by omega) (by rw [Int.pow_succ] at h1; omega) (by omega) (by rw [ByteArray.size_append, s2]; omega) (by omega)]
      congr 1
      apply Go.WideShapes.bytes_inj
      rw [Go.Joins.data_append, Go.Joins.data_append, Go.Joins.data_append, s1]
      have e1 : (x / 10).toNat = x.toNat / 10 := by omega
      have e2 : (48 + x % 10).toNat = 48 + x.toNat % 10 := by omega
      rw [e1, e2]
      show dig (x.toNat / 10) ++ ([UInt8.ofNat (48 + x.toNat % 10)] ++ acc.data.toList) = dig x.toNat ++ acc.data.toList
      rw [dig_step x.toNat (by omega), List.append_assoc]
theorem num_eq (x : Int) (h0 : 0 ≤ x) (h1 : x < 1000000000000) (k : Nat) (hk : 20 < k) : spec_l01Num.f k x = some (⟨(Lib.itoa x).toArray⟩ : ByteArray) := by
  have hi : Lib.itoa x = Lib.decDigits x.toNat := by unfold Lib.itoa; rw [if_neg (by omega)]
  unfold spec_l01Num.f
  by_cases hx : x = 0
  · subst hx
    rw [if_pos rfl, hi, show Int.toNat 0 = 0 from rfl, Lib.decDigits_one (by omega)]
    rfl
  · rw [if_neg hx, decide_eq_false (by omega), num_l0 12 (by omega) k x _ h0 (by omega) (by omega) (by show 0 + 12 ≤ 1000; omega) (by omega)]
    congr 1
    apply Go.WideShapes.bytes_inj
    rw [Go.Joins.data_append, hi]
    have : x.toNat ≠ 0 := by omega
    simp [dig, this]
theorem itoa_len (x : Int) (h0 : 0 ≤ x) (h1 : x < 1000000000000) : (Lib.itoa x).length ≤ 12 := by
  unfold Lib.itoa
  rw [if_neg (by omega)]
  by_cases hx : x.toNat = 0
  · rw [hx, Lib.decDigits_one (by omega)]
    simp
  · have := dig_len 12 x.toNat (by omega)
    unfold dig at this
    rw [if_neg hx] at this
    exact this
theorem size_of (l : List UInt8) : (⟨l.toArray⟩ : ByteArray).size = l.length := rfl

/-- the digits behind the point: three, without the trailing zeros -/
def d3 (r : Int) : List Int := [48 + r / 100, 48 + r % 100 / 10, 48 + r % 10]
def tailN (r : Int) : Nat := if r % 10 ≠ 0 then 3 else if r % 100 ≠ 0 then 2 else 1
def fracL (r : Int) : List UInt8 := ((d3 r).take (tailN r)).map fun n => UInt8.ofNat n.toNat
def milliL (u : Int) : List UInt8 := if u % 1000 = 0 then Lib.itoa (u / 1000) else Lib.itoa (u / 1000) ++ (46 :: fracL (u % 1000))
def milliV (v : Int) : List UInt8 := if v < 0 then 45 :: milliL (-v) else milliL v
theorem frac_len (r : Int) : (fracL r).length ≤ 3 := by
  unfold fracL d3
  simp
  omega
theorem take3 (a b c : Int) : ([a, b, c] : List Int).take 3 = [a, b, c] ∧ ([a, b, c] : List Int).take 2 = [a, b] ∧ ([a, b, c] : List Int).take 1 = [a] := ⟨rfl, rfl, rfl⟩
theorem spec_strip (x : ByteArray) (r : Int) (h0 : 0 < r) (h1 : r < 1000) (hx : x.size ≤ 1000) (k : Nat) (hk : 3 < k) :
    spec_MilliText.l0 k x (d3 r) 3 = some ((x ++ (⟨#[46]⟩ : ByteArray)) ++ strOfNums ((d3 r).take (tailN r))) := by
  obtain ⟨k, rfl⟩ : ∃ m, k = m + 1 := ⟨k - 1, by omega⟩
  obtain ⟨k, rfl⟩ : ∃ m, k = m + 1 := ⟨k - 1, by omega⟩
  obtain ⟨k, rfl⟩ : ∃ m, k = m + 1 := ⟨k - 1, by omega⟩
  have e1 : (⟨#[46]⟩ : ByteArray).size = 1 := rfl
  have hl : ((d3 r).length : Int) = 3 := rfl
  have w2 : wrap64 (3 - 1) = 2 := by unfold wrap64; omega
  have w1 : wrap64 (2 - 1) = 1 := by unfold wrap64; omega
  have w0 : wrap64 (1 - 1) = 0 := by unfold wrap64; omega
  have r2 : rd (d3 r) 2 = 48 + r % 10 := rfl
  have r1 : rd (d3 r) 1 = 48 + r % 100 / 10 := rfl
  have r0 : rd (d3 r) 0 = 48 + r / 100 := rfl
  have hs : ∀ n : Nat, n ≤ 3 → (strOfNums ((d3 r).take n)).size ≤ 3 := by
    intro n hn
    unfold strOfNums d3
    show (List.toArray _).size ≤ 3
    simp
    omega
  have fin : ∀ n : Nat, n ≤ 3 → (if x.size + 1 ≤ 9223372036854775807 then (if 0 ≤ ((n : Nat) : Int) then (if ((n : Nat) : Int) ≤ ((d3 r).length : Int) then ((some ((d3 r).take ((n : Nat) : Int).toNat : List Int)).bind fun y126 => (if (x ++ (⟨#[46]⟩ : ByteArray)).size + (strOfNums y126).size ≤ 9223372036854775807 then (some ((x ++ (⟨#[46]⟩ : ByteArray)) ++ (strOfNums y126))) else (none))) else (none)) else (none)) else (none)) = some ((x ++ (⟨#[46]⟩ : ByteArray)) ++ strOfNums ((d3 r).take n)) := by
    intro n hn
    have := hs n hn
    rw [if_pos (by omega), if_pos (by omega), if_pos (by omega)]
    simp only [Option.bind_some, Int.toNat_natCast]
    rw [if_pos (by rw [ByteArray.size_append, e1]; omega)]
  by_cases c2 : r % 10 = 0
  · by_cases c1 : r % 100 = 0
    · have ht : tailN r = 1 := by unfold tailN; rw [if_neg (by omega), if_neg (by omega)]
      simp only [spec_MilliText.l0, w2, w1, w0, hl, r2, r1, r0]
      rw [if_pos (by omega), if_pos (by omega), if_pos (by omega), if_pos (by omega), if_pos (by omega), if_pos (by omega), if_pos (by omega), if_pos (by omega), if_neg (by omega), ht]
      exact fin 1 (by omega)
    · have ht : tailN r = 2 := by unfold tailN; rw [if_neg (by omega), if_pos c1]
      simp only [spec_MilliText.l0, w2, w1, hl, r2, r1]
      rw [if_pos (by omega), if_pos (by omega), if_pos (by omega), if_pos (by omega), if_pos (by omega), if_neg (by omega), ht]
      exact fin 2 (by omega)
  · have ht : tailN r = 3 := by unfold tailN; rw [if_pos c2]
    simp only [spec_MilliText.l0, w2, hl, r2]
    rw [if_pos (by omega), if_pos (by omega), if_neg (by omega), ht]
    exact fin 3 (by omega)
theorem spec_Milli_j0 (u : Int) (out : ByteArray) (h0 : 0 ≤ u) (h1 : u ≤ 9000000000000) (ho : out.size ≤ 1) (k : Nat) (hk : 30 < k) : spec_MilliText.j0 k u out = some (⟨(out.data.toList ++ milliL u).toArray⟩ : ByteArray) := by
  obtain ⟨k, rfl⟩ : ∃ m, k = m + 1 := ⟨k - 1, by omega⟩
  have q1 : Int.tdiv u 1000 = u / 1000 := Int.tdiv_eq_ediv_of_nonneg h0
  have q2 : Int.tmod u 1000 = u % 1000 := Int.tmod_eq_emod_of_nonneg h0
  have q3 : Int.tmod u 100 = u % 100 := Int.tmod_eq_emod_of_nonneg h0
  have q4 : Int.tmod u 10 = u % 10 := Int.tmod_eq_emod_of_nonneg h0
  have q5 : Int.tdiv (u % 1000) 100 = u % 1000 / 100 := Int.tdiv_eq_ediv_of_nonneg (by omega)
  have q6 : Int.tdiv (u % 100) 10 = u % 100 / 10 := Int.tdiv_eq_ediv_of_nonneg (by omega)
  simp only [spec_MilliText.j0, q1, q2, q3, q4, q5, q6]
  rw [Base.wrap_in (x := u / 1000) (by omega) (by omega), num_eq (u / 1000) (by omega) (by omega) k (by omega)]
  have hlen := itoa_len (u / 1000) (by omega) (by omega)
  have hN : (⟨(Lib.itoa (u / 1000)).toArray⟩ : ByteArray).size = (Lib.itoa (u / 1000)).length := rfl
  simp only [Option.bind_some]
  rw [if_pos (by omega)]
  unfold milliL
  by_cases hm : u % 1000 = 0
  · rw [if_pos hm, if_pos hm]
    exact congrArg some (Go.WideShapes.bytes_inj (Go.Joins.data_append _ _))
  · rw [if_neg hm, if_neg hm]
    have e : ([(wrap64 (48 + wrap64 (u % 1000 / 100))) % 256, (wrap64 (48 + wrap64 (u % 100 / 10))) % 256, (wrap64 (48 + u % 10)) % 256] : List Int) = d3 (u % 1000) := by
      rw [Base.wrap_in (x := u % 1000 / 100) (by omega) (by omega), Base.wrap_in (x := u % 100 / 10) (by omega) (by omega), Base.wrap_in (x := 48 + u % 1000 / 100) (by omega) (by omega), Base.wrap_in (x := 48 + u % 100 / 10) (by omega) (by omega), Base.wrap_in (x := 48 + u % 10) (by omega) (by omega)]
      unfold d3
      rw [show u % 1000 % 100 = u % 100 by omega, show u % 1000 % 10 = u % 10 by omega, Int.emod_eq_of_lt (a := 48 + u % 1000 / 100) (b := 256) (by omega) (by omega), Int.emod_eq_of_lt (a := 48 + u % 100 / 10) (b := 256) (by omega) (by omega), Int.emod_eq_of_lt (a := 48 + u % 10) (b := 256) (by omega) (by omega)]
    rw [e, spec_strip _ (u % 1000) (by omega) (by omega) (by rw [ByteArray.size_append]; omega) k (by omega)]
    congr 1
    apply Go.WideShapes.bytes_inj
    simp only [Go.Joins.data_append]
    unfold fracL strOfNums
    simp
theorem itoa_thousand (r : Int) (h0 : 0 ≤ r) (h1 : r < 1000) : Lib.itoa (1000 + r) = 49 :: (d3 r).map fun n => UInt8.ofNat n.toNat := by
  obtain ⟨n, rfl⟩ := Int.eq_ofNat_of_zero_le h0
  have e0 : (1000 + (n : Int)).toNat = 1000 + n := by omega
  unfold Lib.itoa d3
  rw [if_neg (by omega), e0]
  rw [Lib.decDigits, dif_neg (by omega), Lib.decDigits, dif_neg (by omega), Lib.decDigits, dif_neg (by omega), Lib.decDigits, dif_pos (by omega)]
  have a1 : 48 + (1000 + n) / 10 / 10 / 10 = 49 := by omega
  have a2 : (48 + (n : Int) / 100).toNat = 48 + (1000 + n) / 10 / 10 % 10 := by omega
  have a3 : (48 + (n : Int) % 100 / 10).toNat = 48 + (1000 + n) / 10 % 10 := by omega
  have a4 : (48 + (n : Int) % 10).toNat = 48 + (1000 + n) % 10 := by omega
  simp only [List.map_cons, List.map_nil, a1, a2, a3, a4]
  rfl
theorem digit_ne (x : Int) (h0 : 0 ≤ x) (h1 : x < 10) : (UInt8.ofNat (48 + x).toNat == 48) = decide (x = 0) := by
  obtain ⟨n, rfl⟩ := Int.eq_ofNat_of_zero_le h0
  have hn : n < 10 := by omega
  have e : (48 + (n : Int)).toNat = 48 + n := by omega
  rw [e]
  have : ∀ m : Fin 10, (UInt8.ofNat (48 + m.val) == 48) = decide (m.val = 0) := by decide
  have h := this ⟨n, hn⟩
  rw [h]
  simp
theorem trim_d3 (r : Int) (h0 : 0 < r) (h1 : r < 1000) : Lib.trimRightB ((d3 r).map fun n => UInt8.ofNat n.toNat) 48 = fracL r := by
  unfold Lib.trimRightB fracL d3 tailN
  have z1 := digit_ne (r % 10) (by omega) (by omega)
  have z2 := digit_ne (r % 100 / 10) (by omega) (by omega)
  have z3 := digit_ne (r / 100) (by omega) (by omega)
  simp only [List.map_cons, List.map_nil, List.reverse_cons, List.reverse_nil, List.nil_append, List.cons_append]
  by_cases c2 : r % 10 = 0
  · by_cases c1 : r % 100 = 0
    · have c0 : ¬ r / 100 = 0 := by omega
      have c1' : r % 100 / 10 = 0 := by omega
      simp [List.dropWhile_cons, z1, z2, z3, c2, c1, c1', c0]
    · have c1' : ¬ r % 100 / 10 = 0 := by omega
      simp [List.dropWhile_cons, z1, z2, c2, c1, c1']
  · simp [List.dropWhile_cons, z1, c2]
theorem impl_Milli_j0 (u : Int) (out : ByteArray) (h0 : 0 ≤ u) (h1 : u ≤ 9000000000000) (ho : out.size ≤ 1) (k : Nat) (hk : 0 < k) : impl_MilliText.j0 k u out = some (⟨(out.data.toList ++ milliL u).toArray⟩ : ByteArray) := by
  obtain ⟨k, rfl⟩ : ∃ m, k = m + 1 := ⟨k - 1, by omega⟩
  have q1 : Int.tdiv u 1000 = u / 1000 := Int.tdiv_eq_ediv_of_nonneg h0
  have q2 : Int.tmod u 1000 = u % 1000 := Int.tmod_eq_emod_of_nonneg h0
  simp only [impl_MilliText.j0, q1, q2]
  have it : ∀ x : Int, 0 ≤ x → x ≤ 9000000000000 → strconv_Itoa.f x = some (⟨(Lib.itoa x).toArray⟩ : ByteArray) := by
    intro x g0 g1
    unfold strconv_Itoa.f
    rw [if_pos (by omega), if_pos (by omega)]
  rw [Base.wrap_in (x := u / 1000) (by omega) (by omega), Base.wrap_in (x := 1000 + u % 1000) (by omega) (by omega), it (u / 1000) (by omega) (by omega), it (1000 + u % 1000) (by omega) (by omega)]
  have hlen := itoa_len (u / 1000) (by omega) (by omega)
  have hN : (⟨(Lib.itoa (u / 1000)).toArray⟩ : ByteArray).size = (Lib.itoa (u / 1000)).length := rfl
  have e1 : (⟨#[46]⟩ : ByteArray).size = 1 := rfl
  simp only [Option.bind_some]
  rw [if_pos (by omega)]
  unfold milliL
  by_cases hm : u % 1000 = 0
  · rw [if_pos hm, if_pos hm]
    exact congrArg some (Go.WideShapes.bytes_inj (Go.Joins.data_append _ _))
  · rw [if_neg hm, if_neg hm, if_pos (by rw [ByteArray.size_append]; omega)]
    have e := itoa_thousand (u % 1000) (by omega) (by omega)
    have hsz : (⟨(Lib.itoa (1000 + u % 1000)).toArray⟩ : ByteArray).size = 4 := by rw [e]; rfl
    have hex : ((⟨(Lib.itoa (1000 + u % 1000)).toArray⟩ : ByteArray).extract 1 4).data.toList = (d3 (u % 1000)).map fun n => UInt8.ofNat n.toNat := by
      rw [Lib.extract_data, e]
      simp [d3]
    rw [hsz, if_pos (by omega)]
    unfold strings_TrimRight.f
    have hfl := frac_len (u % 1000)
    rw [if_pos rfl, if_pos (by rw [← data_length, hex]; simp [d3]), hex, trim_d3 (u % 1000) (by omega) (by omega)]
    simp only [Option.bind_some]
    have hF : (⟨(fracL (u % 1000)).toArray⟩ : ByteArray).size = (fracL (u % 1000)).length := rfl
    rw [if_pos (by rw [ByteArray.size_append, ByteArray.size_append, e1]; omega)]
    congr 1
    apply Go.WideShapes.bytes_inj
    simp only [Go.Joins.data_append]
    simp
theorem spec_value_eq (a : Int) : spec_l01Value.f a = some (decide (-1000000000 ≤ a ∧ a ≤ 1000000000)) := by
  unfold spec_l01Value.f
  simp only [spec_in_eq, Option.bind_some]
theorem impl_value_eq (a : Int) : impl_isValue.f a = some (decide (-1000000000 ≤ a ∧ a ≤ 1000000000)) := by
  unfold impl_isValue.f
  simp only [impl_in_eq, Option.bind_some]
def milliB (v : Int) : ByteArray := if -1000000000 ≤ v ∧ v ≤ 1000000000 then ⟨(milliV v).toArray⟩ else ⟨#[]⟩
theorem spec_Milli_eq (v : Int) (k : Nat) (hk : 30 < k) : spec_MilliText.f k v = some (milliB v) := by
  unfold spec_MilliText.f milliB
  rw [spec_value_eq]
  simp only [Option.bind_some]
  by_cases h : -1000000000 ≤ v ∧ v ≤ 1000000000
  · rw [if_pos (decide_eq_true h), if_pos h]
    unfold milliV
    by_cases hn : v < 0
    · rw [if_pos hn, if_pos hn, Base.wrap_in (x := -v) (by omega) (by omega), spec_Milli_j0 (-v) _ (by omega) (by omega) (by decide) k hk]
      rfl
    · rw [if_neg hn, if_neg hn, spec_Milli_j0 v _ (by omega) (by omega) (by decide) k hk]
      rfl
  · rw [decide_eq_false h, if_neg (by simp), if_neg h]
theorem impl_Milli_eq (v : Int) (k : Nat) (hk : 0 < k) : impl_MilliText.f k v = some (milliB v) := by
  unfold impl_MilliText.f milliB
  rw [impl_value_eq]
  simp only [Option.bind_some]
  by_cases h : -1000000000 ≤ v ∧ v ≤ 1000000000
  · rw [if_pos (decide_eq_true h), if_pos h]
    unfold milliV
    by_cases hn : v < 0
    · rw [if_pos hn, if_pos hn, Base.wrap_in (x := -v) (by omega) (by omega), impl_Milli_j0 (-v) _ (by omega) (by omega) (by decide) k hk]
      rfl
    · rw [if_neg hn, if_neg hn, impl_Milli_j0 v _ (by omega) (by omega) (by decide) k hk]
      rfl
  · rw [decide_eq_false h, if_neg (by simp), if_neg h]
theorem milli_size (v : Int) : (milliB v).size ≤ 20 := by
  unfold milliB
  by_cases h : -1000000000 ≤ v ∧ v ≤ 1000000000
  · rw [if_pos h]
    show (milliV v).length ≤ 20
    have hL : ∀ u : Int, 0 ≤ u → u ≤ 1000000000 → (milliL u).length ≤ 16 := by
      intro u g0 g1
      have h1 := itoa_len (u / 1000) (by omega) (by omega)
      have h2 := frac_len (u % 1000)
      unfold milliL
      split
      · omega
      · simp
        omega
    unfold milliV
    split
    · have := hL (-v) (by omega) (by omega)
      simp
      omega
    · have := hL v (by omega) (by omega)
      omega
  · rw [if_neg h]
    decide

theorem number_eq (x : Int) (h0 : 0 ≤ x) (h1 : x < 1000000000000) : impl_number.f x = some (⟨(Lib.itoa x).toArray⟩ : ByteArray) := by
  unfold impl_number.f strconv_Itoa.f
  rw [if_pos (by omega), if_pos (by omega)]
  rfl

theorem words_eq (l : List ByteArray) (hl : l.length ≤ 10) (hs : ∀ x ∈ l, x.size ≤ 1000) : impl_words.f l = some (⟨(Lib.join (l.map (·.data.toList)) [32]).toArray⟩ : ByteArray) := by
  unfold impl_words.f strings_Join.f
  have hb : ∀ l : List ByteArray, (∀ x ∈ l, x.size ≤ 1000) → (Lib.joinTail [32] (l.map (·.data.toList))).length ≤ 1001 * l.length := by
    intro l
    induction l with
    | nil => intro _; simp [Lib.joinTail]
    | cons a l ih =>
      intro h
      have h1 := ih (fun x hx => h x (List.mem_cons_of_mem _ hx))
      have h2 := h a List.mem_cons_self
      have h3 := data_length a
      simp only [Lib.joinTail, List.map_cons, List.flatten_cons, List.length_append, List.length_cons, List.length_nil] at h1 ⊢
      omega
  have hlen : (Lib.join (l.map (·.data.toList)) [32]).length ≤ 20000 := by
    cases l with
    | nil => simp [Lib.join_nil]
    | cons a l =>
      have h1 := hb l (fun x hx => hs x (List.mem_cons_of_mem _ hx))
      have h2 := hs a List.mem_cons_self
      have h3 := data_length a
      rw [List.map_cons, Lib.join_cons, List.length_append]
      simp only [List.length_cons] at hl
      omega
  rw [if_pos (show (Lib.join (l.map (·.data.toList)) (⟨#[32]⟩ : ByteArray).data.toList).length ≤ 140737488355328 from Nat.le_trans hlen (by omega)), if_pos (by omega)]
  rfl

theorem spec_NameOk_l0 (s : ByteArray) (hs : s.size ≤ maxLen) (d : Nat) : ∀ (k : Nat) (i : Int), 0 ≤ i → (s.size : Int) - i = d → d < k → spec_NameOk.l0 k s i = some (Base.nameRest s d i) := by
  unfold maxLen at hs
  induction d with
  | zero =>
    intro k i h0 hd hk
    obtain ⟨k, rfl⟩ : ∃ m, k = m + 1 := ⟨k - 1, by omega⟩
    simp only [spec_NameOk.l0]
    rw [if_neg (by omega)]
    rfl
  | succ d ih =>
    intro k i h0 hd hk
    obtain ⟨k, rfl⟩ : ∃ m, k = m + 1 := ⟨k - 1, by omega⟩
    have hr := ih k (i + 1) (by omega) (by omega) (by omega)
    simp only [spec_NameOk.l0]
    rw [if_pos (by omega), if_pos h0, Base.wrap_in (by omega) (by omega), hr]
    simp only [Base.nameRest, Base.chr]
    by_cases h1 : bt s i < 97 <;> by_cases h2 : bt s i < 48 <;> by_cases h3 : bt s i > 57 <;> by_cases h4 : bt s i > 122 <;> simp [h1, h2, h3, h4]
theorem spec_NameOk_eq (s : ByteArray) (hs : s.size ≤ maxLen) (k : Nat) (hk : s.size < k) : spec_NameOk.f k s = some (Base.nameB s) := by
  unfold spec_NameOk.f Base.nameB
  rw [spec_in_eq, spec_NameOk_l0 s hs s.size k 0 (by omega) (by omega) hk]
  by_cases h : 1 ≤ (s.size : Int) ∧ (s.size : Int) ≤ 12 <;> simp [h]
theorem impl_NameOk_l0 (s : ByteArray) (hs : s.size ≤ maxLen) (d : Nat) : ∀ (k : Nat) (i : Int), 0 ≤ i → (s.size : Int) - i = d → d < k → impl_NameOk.l0 k s (s.size : Int) i = some (Base.nameRest s d i && decide (1 ≤ (s.size : Int) ∧ (s.size : Int) ≤ 12)) := by
  unfold maxLen at hs
  induction d with
  | zero =>
    intro k i h0 hd hk
    obtain ⟨k, rfl⟩ : ∃ m, k = m + 1 := ⟨k - 1, by omega⟩
    simp only [impl_NameOk.l0]
    rw [if_neg (by omega), impl_in_eq]
    simp [Base.nameRest]
  | succ d ih =>
    intro k i h0 hd hk
    obtain ⟨k, rfl⟩ : ∃ m, k = m + 1 := ⟨k - 1, by omega⟩
    have hr := ih k (i + 1) (by omega) (by omega) (by omega)
    simp only [impl_NameOk.l0]
    rw [if_pos (by omega), if_pos h0, if_pos (by omega), Base.wrap_in (by omega) (by omega), hr]
    simp only [Base.nameRest, Base.chr]
    by_cases h1 : bt s i < 97 <;> by_cases h2 : bt s i < 48 <;> by_cases h3 : bt s i > 57 <;> by_cases h4 : bt s i > 122 <;> simp [h1, h2, h3, h4]
theorem impl_NameOk_eq (s : ByteArray) (hs : s.size ≤ maxLen) (k : Nat) (hk : s.size < k) : impl_NameOk.f k s = some (Base.nameB s) := by
  unfold impl_NameOk.f Base.nameB
  exact impl_NameOk_l0 s hs s.size k 0 (by omega) (by omega) hk

theorem spec_GoalOk_eq (s : ByteArray) (t l : Int) (hs : s.size ≤ maxLen) (k : Nat) (hk : s.size < k) : spec_GoalOk.f k s t l = some (Base.goalB s t l) := by
  unfold spec_GoalOk.f Base.goalB
  rw [spec_NameOk_eq s hs k hk, spec_in_eq, spec_in_eq]
  by_cases h1 : Base.nameB s = true <;> by_cases h2 : 1 ≤ t ∧ t ≤ 1000000 <;> simp [h1, h2]
theorem impl_GoalOk_eq (s : ByteArray) (t l : Int) (hs : s.size ≤ maxLen) (k : Nat) (hk : s.size < k) : impl_GoalOk.f k s t l = some (Base.goalB s t l) := by
  unfold impl_GoalOk.f Base.goalB
  rw [impl_NameOk_eq s hs k hk, impl_in_eq, impl_in_eq]
  by_cases h1 : Base.nameB s = true <;> by_cases h2 : 1 ≤ t ∧ t ≤ 1000000 <;> simp [h1, h2]

theorem name_size {s : ByteArray} (h : Base.nameB s = true) : s.size ≤ 12 := by
  simp only [Base.nameB, Bool.and_eq_true, decide_eq_true_eq] at h
  omega

theorem GoalLine_eq (s : ByteArray) (t l : Int) (hs : s.size ≤ maxLen) (k : Nat) (hk : s.size + 40 < k) : ∃ x, spec_GoalLine.f k s t l = some x ∧ impl_GoalLine.f k s t l = some x := by
  unfold spec_GoalLine.f impl_GoalLine.f
  rw [spec_GoalOk_eq s t l hs k (by omega), impl_GoalOk_eq s t l hs k (by omega)]
  simp only [Option.bind_some]
  by_cases hg : Base.goalB s t l = true
  · rw [if_pos hg, if_pos hg]
    have hg' := hg
    simp only [Base.goalB, Bool.and_eq_true, decide_eq_true_eq] at hg'
    obtain ⟨⟨hn, t0, t1⟩, l0, l1⟩ := hg'
    have hsz := name_size hn
    rw [spec_Milli_eq t k (by omega), impl_Milli_eq t k (by omega), num_eq l l0 (by omega) k (by omega), number_eq l l0 (by omega)]
    have hlen := itoa_len l l0 (by omega)
    have hT : (⟨(Lib.itoa l).toArray⟩ : ByteArray).size = (Lib.itoa l).length := rfl
    have e1 : (⟨#[32]⟩ : ByteArray).size = 1 := rfl
    have hm := milli_size t
    simp only [Option.bind_some]
    generalize (⟨(Lib.itoa l).toArray⟩ : ByteArray) = N at *
    generalize milliB t = M at *
    have b1 : s.size + 1 ≤ 9223372036854775807 := by omega
    have b2 : (s ++ (⟨#[32]⟩ : ByteArray)).size + M.size ≤ 9223372036854775807 := by rw [ByteArray.size_append, e1]; omega
    have b3 : ((s ++ (⟨#[32]⟩ : ByteArray)) ++ M).size + 1 ≤ 9223372036854775807 := by rw [ByteArray.size_append, ByteArray.size_append, e1]; omega
    have b4 : (((s ++ (⟨#[32]⟩ : ByteArray)) ++ M) ++ (⟨#[32]⟩ : ByteArray)).size + N.size ≤ 9223372036854775807 := by rw [ByteArray.size_append, ByteArray.size_append, ByteArray.size_append, e1]; omega
    rw [if_pos b1, if_pos b2, if_pos b3, if_pos b4]
    rw [words_eq [s, M, N] (by simp) (by
      intro x hx
      simp only [List.mem_cons, List.not_mem_nil, or_false] at hx
      rcases hx with rfl | rfl | rfl <;> omega)]
    refine ⟨_, rfl, ?_⟩
    simp only [Option.bind_some]
    congr 1
    apply Go.WideShapes.bytes_inj
    simp only [Go.Joins.data_append, List.map_cons, List.map_nil, Lib.join_cons, Lib.joinTail, List.flatten_cons, List.flatten_nil, List.append_nil]
    simp
  · rw [if_neg hg, if_neg hg]
    exact ⟨_, rfl, rfl⟩
theorem FnExactGoalLine (s : ByteArray) (t l : Int) (hs : s.size ≤ maxLen) (_ : (Lit.int .i64 t).wf = true) (_ : (Lit.int .i64 l).wf = true) : ∃ k, laws_FnExactGoalLine.f k s t l = some true := by
  refine ⟨s.size + 41, ?_⟩
  obtain ⟨x, e1, e2⟩ := GoalLine_eq s t l hs (s.size + 41) (by omega)
  unfold laws_FnExactGoalLine.f laws_szGoal.f laws_toGoal.f
  simp only [Option.bind_some, e1, e2]
  by_cases h : wrap64 (1048576 - (s.size : Int)) < 0 <;> simp [h]

end Go.Proofs.YtbbnlagdahickaaDoor.Pure
