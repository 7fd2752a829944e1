/- The pure half of FnExactParsePod: the Lean functions of the program and of the reference agree, so the law's function answers true. Conditions: those of the statement, spelled at the theorem. -/
import Derived.Test.YtbbnlagdahickaaDoorOFnExactParsePodx
import Derived.Test.YtbbnlagdahickaaDoorBase
import Derived.Test.YtbbnlagdahickaaDoorText
namespace Go.Proofs.YtbbnlagdahickaaDoor.Pure
open Go.RowKit Go.Proofs.YtbbnlagdahickaaDoor Go.Proofs.YtbbnlagdahickaaDoor.PFnExactParsePod Go.Proofs.YtbbnlagdahickaaDoorW.PrintWords Go.Proofs.YtbbnlagdahickaaDoorW.PrintLast
set_option linter.unusedSimpArgs false
set_option linter.unusedVariables false

theorem spec_in_eq (a b c : Int) : spec_l01In.f a b c = some (decide (b ≤ a ∧ a ≤ c)) := by
  unfold spec_l01In.f
  by_cases h : b ≤ a <;> simp [h]
theorem impl_in_eq (a b c : Int) : impl_in.f a b c = some (decide (b ≤ a ∧ a ≤ c)) := by
  unfold impl_in.f
  by_cases h : b ≤ a <;> simp [h]

theorem spec_NameOk_l0 (s : ByteArray) (hs : s.size ≤ maxLen) (d : Nat) : ∀ (k : Nat) (i : Int), 0 ≤ i → (s.size : Int) - i = d → d < k → spec_NameOk.l0 k s i = some (Base.nameRest s d i) := by
  unfold maxLen at hs
  induction d with
  | zero =>
    intro k i h0 hd hk
    obtain ⟨k, rfl⟩ : ∃ m, k = m + 1 := ⟨k - 1, by omega⟩
    simp only [spec_NameOk.l0]
    rw [if_neg (by omega)]
    rfl
  | succ d ih =>
    intro k i h0 hd hk
    obtain ⟨k, rfl⟩ : ∃ m, k = m + 1 := ⟨k - 1, by omega⟩
    have hr := ih k (i + 1) (by omega) (by omega) (by omega)
    simp only [spec_NameOk.l0]
    rw [if_pos (by omega), if_pos h0, Base.wrap_in (by omega) (by omega), hr]
    simp only [Base.nameRest, Base.chr]
    by_cases h1 : bt s i < 97 <;> by_cases h2 : bt s i < 48 <;> by_cases h3 : bt s i > 57 <;> by_cases h4 : bt s i > 122 <;> simp [h1, h2, h3, h4]
theorem spec_NameOk_eq (s : ByteArray) (hs : s.size ≤ maxLen) (k : Nat) (hk : s.size < k) : spec_NameOk.f k s = some (Base.nameB s) := by
  unfold spec_NameOk.f Base.nameB
  rw [spec_in_eq, spec_NameOk_l0 s hs s.size k 0 (by omega) (by omega) hk]
  by_cases h : 1 ≤ (s.size : Int) ∧ (s.size : Int) ≤ 12 <;> simp [h]
theorem impl_NameOk_l0 (s : ByteArray) (hs : s.size ≤ maxLen) (d : Nat) : ∀ (k : Nat) (i : Int), 0 ≤ i → (s.size : Int) - i = d → d < k → impl_NameOk.l0 k s (s.size : Int) i = some (Base.nameRest s d i && decide (1 ≤ (s.size : Int) ∧ (s.size : Int) ≤ 12)) := by
  unfold maxLen at hs
  induction d with
  | zero =>
    intro k i h0 hd hk
    obtain ⟨k, rfl⟩ : ∃ m, k = m + 1 := ⟨k - 1, by omega⟩
    simp only [impl_NameOk.l0]
    rw [if_neg (by omega), impl_in_eq]
    simp [Base.nameRest]
  | succ d ih =>
    intro k i h0 hd hk
    obtain ⟨k, rfl⟩ : ∃ m, k = m + 1 := ⟨k - 1, by omega⟩
    have hr := ih k (i + 1) (by omega) (by omega) (by omega)
    simp only [impl_NameOk.l0]
    rw [if_pos (by omega), if_pos h0, if_pos (by omega), Base.wrap_in (by omega) (by omega), hr]
    simp only [Base.nameRest, Base.chr]
    by_cases h1 : bt s i < 97 <;> by_cases h2 : bt s i < 48 <;> by_cases h3 : bt s i > 57 <;> by_cases h4 : bt s i > 122 <;> simp [h1, h2, h3, h4]
theorem impl_NameOk_eq (s : ByteArray) (hs : s.size ≤ maxLen) (k : Nat) (hk : s.size < k) : impl_NameOk.f k s = some (Base.nameB s) := by
  unfold impl_NameOk.f Base.nameB
  exact impl_NameOk_l0 s hs s.size k 0 (by omega) (by omega) hk

theorem spec_tick_eq (a : Int) : spec_l02Tick.f a = some (decide (0 ≤ a ∧ a ≤ 1000000000)) := by
  unfold spec_l02Tick.f
  simp only [spec_in_eq, Option.bind_some]
theorem impl_tick_eq (a : Int) : impl_isTick.f a = some (decide (0 ≤ a ∧ a ≤ 1000000000)) := by
  unfold impl_isTick.f
  simp only [impl_in_eq, Option.bind_some]

theorem spec_PodOk_eq (s : ByteArray) (b p : Int) (r : Bool) (hs : s.size ≤ maxLen) (k : Nat) (hk : s.size < k) : spec_PodOk.f k s b p r = some (Base.podB s b p) := by
  unfold spec_PodOk.f Base.podB
  rw [spec_NameOk_eq s hs k hk, spec_tick_eq, spec_in_eq]
  by_cases h1 : Base.nameB s = true <;> by_cases h2 : 0 ≤ b ∧ b ≤ 1000000000 <;> simp [h1, h2]
theorem impl_PodOk_eq (s : ByteArray) (b p : Int) (r : Bool) (hs : s.size ≤ maxLen) (k : Nat) (hk : s.size < k) : impl_PodOk.f k s b p r = some (Base.podB s b p) := by
  unfold impl_PodOk.f Base.podB
  rw [impl_NameOk_eq s hs k hk, impl_tick_eq, impl_in_eq]
  by_cases h1 : Base.nameB s = true <;> by_cases h2 : 0 ≤ b ∧ b ≤ 1000000000 <;> simp [h1, h2]

theorem str_one (c : Int) (h0 : 0 ≤ c) (h1 : c < 256) : (strOfNums [c]).data.toList = [UInt8.ofNat c.toNat] ∧ (strOfNums [c]).size = 1 := by
  unfold strOfNums
  constructor
  · simp
  · rfl
/-- the digits of a number above 0, nothing of 0 -/
def dig (u : Nat) : List UInt8 := if u = 0 then [] else Lib.decDigits u
theorem dig_step (u : Nat) (h : u ≠ 0) : dig u = dig (u / 10) ++ [UInt8.ofNat (48 + u % 10)] := by
  unfold dig
  rw [if_neg h]
  by_cases h1 : u < 10
  · rw [Lib.decDigits, dif_pos h1, if_pos (by omega), Nat.mod_eq_of_lt h1]
    rfl
  · rw [Lib.decDigits, dif_neg h1, if_neg (by omega)]
theorem dig_len (d : Nat) : ∀ u : Nat, u < 10 ^ d → (dig u).length ≤ d := by
  induction d with
  | zero =>
    intro u hu
    obtain rfl : u = 0 := by simp at hu; exact hu
    simp [dig]
  | succ d ih =>
    intro u hu
    by_cases h : u = 0
    · simp [dig, h]
    · rw [dig_step u h]
      have := ih (u / 10) (by rw [Nat.pow_succ] at hu; omega)
      simp
      exact this
theorem dig_nil (acc : ByteArray) : acc = (⟨(dig (0 : Int).toNat).toArray⟩ : ByteArray) ++ acc := by
  apply Go.WideShapes.bytes_inj
  rw [Go.Joins.data_append]
  simp [dig]
theorem num_l0 (d : Nat) (hd : d ≤ 100) : ∀ (k : Nat) (x : Int) (acc : ByteArray), 0 ≤ x → x < 10 ^ d → x ≤ 9223372036854775807 → acc.size + d ≤ 1000 → d < k → spec_l01Num.l0 k x acc false = some ((⟨(dig x.toNat).toArray⟩ : ByteArray) ++ acc) := by
  induction d with
  | zero =>
    intro k x acc h0 h1 h2 hs hk
    obtain ⟨k, rfl⟩ : ∃ m, k = m + 1 := ⟨k - 1, by omega⟩
    obtain rfl : x = 0 := by simp at h1; omega
    simp only [spec_l01Num.l0, if_true, Bool.false_eq_true, if_false]
    exact congrArg some (dig_nil acc)
  | succ d ih =>
    intro k x acc h0 h1 h2 hs hk
    obtain ⟨k, rfl⟩ : ∃ m, k = m + 1 := ⟨k - 1, by omega⟩
    by_cases hx : x = 0
    · subst hx
      simp only [spec_l01Num.l0, if_true, Bool.false_eq_true, if_false]
      exact congrArg some (dig_nil acc)
    · simp only [spec_l01Num.l0]
      rw [if_neg hx]
      have hm : Int.tmod x 10 = x % 10 := Int.tmod_eq_emod_of_nonneg h0
      have hq : Int.tdiv x 10 = x / 10 := Int.tdiv_eq_ediv_of_nonneg h0
      rw [hm, hq, if_neg (by omega), Base.wrap_in (x := 48 + x % 10) (by omega) (by omega), Base.wrap_in (x := x / 10) (by omega) (by omega), Int.emod_eq_of_lt (a := 48 + x % 10) (b := 256) (by omega) (by omega)]
      obtain ⟨s1, s2⟩ := str_one (48 + x % 10) (by omega) (by omega)
      simp only [Option.bind_some]
      rw [if_pos (by omega), ih (by omega) k (x / 10) (strOfNums [48 + x % 10] ++ acc) (by omega) (by rw [Int.pow_succ] at h1; omega) (by omega) (by rw [ByteArray.size_append, s2]; omega) (by omega)]
      congr 1
      apply Go.WideShapes.bytes_inj
      rw [Go.Joins.data_append, Go.Joins.data_append, Go.Joins.data_append, s1]
      have e1 : (x / 10).toNat = x.toNat / 10 := by omega
      have e2 : (48 + x % 10).toNat = 48 + x.toNat % 10 := by omega
      rw [e1, e2]
      show dig (x.toNat / 10) ++ ([UInt8.ofNat (48 + x.toNat % 10)] ++ acc.data.toList) = dig x.toNat ++ acc.data.toList
      rw [dig_step x.toNat (by omega), List.append_assoc]
theorem num_eq (x : Int) (h0 : 0 ≤ x) (h1 : x < 1000000000000) (k : Nat) (hk : 20 < k) : spec_l01Num.f k x = some (⟨(Lib.itoa x).toArray⟩ : ByteArray) := by
  have hi : Lib.itoa x = Lib.decDigits x.toNat := by unfold Lib.itoa; rw [if_neg (by omega)]
  unfold spec_l01Num.f
  by_cases hx : x = 0
  · subst hx
    rw [if_pos rfl, hi, show Int.toNat 0 = 0 from rfl, Lib.decDigits_one (by omega)]
    rfl
  · rw [if_neg hx, decide_eq_false (by omega), num_l0 12 (by omega) k x _ h0 (by omega) (by omega) (by show 0 + 12 ≤ 1000; omega) (by omega)]
    congr 1
    apply Go.WideShapes.bytes_inj
    rw [Go.Joins.data_append, hi]
    have : x.toNat ≠ 0 := by omega
    simp [dig, this]
theorem itoa_len (x : Int) (h0 : 0 ≤ x) (h1 : x < 1000000000000) : (Lib.itoa x).length ≤ 12 := by
  unfold Lib.itoa
  rw [if_neg (by omega)]
  by_cases hx : x.toNat = 0
  · rw [hx, Lib.decDigits_one (by omega)]
    simp
  · have := dig_len 12 x.toNat (by omega)
    unfold dig at this
    rw [if_neg hx] at this
    exact this
theorem size_of (l : List UInt8) : (⟨l.toArray⟩ : ByteArray).size = l.length := rfl

theorem number_eq (x : Int) (h0 : 0 ≤ x) (h1 : x < 1000000000000) : impl_number.f x = some (⟨(Lib.itoa x).toArray⟩ : ByteArray) := by
  unfold impl_number.f strconv_Itoa.f
  rw [if_pos (by omega), if_pos (by omega)]
  rfl

theorem words_eq (l : List ByteArray) (hl : l.length ≤ 10) (hs : ∀ x ∈ l, x.size ≤ 1000) : impl_words.f l = some (⟨(Lib.join (l.map (·.data.toList)) [32]).toArray⟩ : ByteArray) := by
  unfold impl_words.f strings_Join.f
  have hb : ∀ l : List ByteArray, (∀ x ∈ l, x.size ≤ 1000) → (Lib.joinTail [32] (l.map (·.data.toList))).length ≤ 1001 * l.length := by
    intro l
    induction l with
    | nil => intro _; simp [Lib.joinTail]
    | cons a l ih =>
      intro h
      have h1 := ih (fun x hx => h x (List.mem_cons_of_mem _ hx))
      have h2 := h a List.mem_cons_self
      have h3 := data_length a
      simp only [Lib.joinTail, List.map_cons, List.flatten_cons, List.length_append, List.length_cons, List.length_nil] at h1 ⊢
      omega
  have hlen : (Lib.join (l.map (·.data.toList)) [32]).length ≤ 20000 := by
    cases l with
    | nil => simp [Lib.join_nil]
    | cons a l =>
      have h1 := hb l (fun x hx => hs x (List.mem_cons_of_mem _ hx))
      have h2 := hs a List.mem_cons_self
      have h3 := data_length a
      rw [List.map_cons, Lib.join_cons, List.length_append]
      simp only [List.length_cons] at hl
      omega
  rw [if_pos (show (Lib.join (l.map (·.data.toList)) (⟨#[32]⟩ : ByteArray).data.toList).length ≤ 140737488355328 from Nat.le_trans hlen (by omega)), if_pos (by omega)]
  rfl

theorem name_size {s : ByteArray} (h : Base.nameB s = true) : s.size ≤ 12 := by
  simp only [Base.nameB, Bool.and_eq_true, decide_eq_true_eq] at h
  omega


/-- The words of the phases. -/
def phL (p : Int) : List UInt8 := if p = 0 then [114, 117, 110, 115] else if p = 1 then [102, 97, 105, 108, 101, 100] else [100, 101, 108, 101, 116, 101, 100]
def rdL (r : Bool) : List UInt8 := if r = true then [114, 101, 97, 100, 121] else [117, 110, 114, 101, 97, 100, 121]
/-- The line of a pod. -/
def lineL (s : ByteArray) (b p : Int) (r : Bool) : List UInt8 := if Base.podB s b p = true then s.data.toList ++ 32 :: (Lib.itoa b ++ 32 :: (phL p ++ 32 :: rdL r)) else []
theorem PodLine_eq (s : ByteArray) (b p : Int) (r : Bool) (hs : s.size ≤ maxLen) (k : Nat) (hk : s.size + 20 < k) : ∃ t, spec_PodLine.f k s b p r = some t ∧ impl_PodLine.f k s b p r = some t ∧ t.data.toList = lineL s b p r := by
  unfold spec_PodLine.f impl_PodLine.f
  rw [spec_PodOk_eq s b p r hs k (by omega), impl_PodOk_eq s b p r hs k (by omega)]
  simp only [Option.bind_some]
  by_cases hp : Base.podB s b p = true
  · rw [if_pos hp, if_pos hp]
    have hp' := hp
    simp only [Base.podB, Bool.and_eq_true, decide_eq_true_eq] at hp'
    obtain ⟨⟨hn, b0, b1⟩, p0, p1⟩ := hp'
    have hsz := name_size hn
    rw [num_eq b b0 (by omega) k (by omega), number_eq b b0 (by omega)]
    have hlen := itoa_len b b0 (by omega)
    have hT : (⟨(Lib.itoa b).toArray⟩ : ByteArray).size = (Lib.itoa b).length := rfl
    have e1 : (⟨#[32]⟩ : ByteArray).size = 1 := rfl
    simp only [Option.bind_some, impl_phaseNames.f]
    have hph : ∃ q : ByteArray, q.size ≤ 7 ∧ rdOf ByteArray.empty [(⟨#[114, 117, 110, 115]⟩ : ByteArray), (⟨#[102, 97, 105, 108, 101, 100]⟩ : ByteArray), (⟨#[100, 101, 108, 101, 116, 101, 100]⟩ : ByteArray)] p = q ∧ q.data.toList = phL p := by
      obtain rfl | rfl | rfl : p = 0 ∨ p = 1 ∨ p = 2 := by omega
      · exact ⟨_, by decide, rfl, rfl⟩
      · exact ⟨_, by decide, rfl, rfl⟩
      · exact ⟨_, by decide, rfl, rfl⟩
    obtain ⟨q, hq, e2, hqv⟩ := hph
    rw [e2]
    generalize hTT : (⟨(Lib.itoa b).toArray⟩ : ByteArray) = N at *
    have b1 : s.size + 1 ≤ 9223372036854775807 := by omega
    have b2 : (s ++ (⟨#[32]⟩ : ByteArray)).size + N.size ≤ 9223372036854775807 := by rw [ByteArray.size_append, e1]; omega
    have b3 : ((s ++ (⟨#[32]⟩ : ByteArray)) ++ N).size + 1 ≤ 9223372036854775807 := by rw [ByteArray.size_append, ByteArray.size_append, e1]; omega
    have b4 : (((s ++ (⟨#[32]⟩ : ByteArray)) ++ N) ++ (⟨#[32]⟩ : ByteArray)).size + q.size ≤ 9223372036854775807 := by rw [ByteArray.size_append, ByteArray.size_append, ByteArray.size_append, e1]; omega
    have b5 : ((((s ++ (⟨#[32]⟩ : ByteArray)) ++ N) ++ (⟨#[32]⟩ : ByteArray)) ++ q).size + 8 ≤ 9223372036854775807 := by rw [ByteArray.size_append, ByteArray.size_append, ByteArray.size_append, ByteArray.size_append, e1]; omega
    have b6 : ((((s ++ (⟨#[32]⟩ : ByteArray)) ++ N) ++ (⟨#[32]⟩ : ByteArray)) ++ q).size + 6 ≤ 9223372036854775807 := by omega
    have pl : p < (([(⟨#[114, 117, 110, 115]⟩ : ByteArray), (⟨#[102, 97, 105, 108, 101, 100]⟩ : ByteArray), (⟨#[100, 101, 108, 101, 116, 101, 100]⟩ : ByteArray)] : List ByteArray).length : Int) := by simp; omega
    simp only [if_pos b1, if_pos b2, if_pos b3, if_pos p0, if_pos pl, if_pos b4]
    have hw : ∀ z : ByteArray, z.size ≤ 100 → impl_words.f [s, N, q, z] = some ((((s ++ (⟨#[32]⟩ : ByteArray)) ++ N) ++ (⟨#[32]⟩ : ByteArray)) ++ q ++ ((⟨#[32]⟩ : ByteArray) ++ z)) := by
      intro z hz
      rw [words_eq [s, N, q, z] (by simp) (by
        intro x hx
        simp only [List.mem_cons, List.not_mem_nil, or_false] at hx
        rcases hx with rfl | rfl | rfl | rfl <;> omega)]
      congr 1
      apply Go.WideShapes.bytes_inj
      simp only [Go.Joins.data_append, List.map_cons, List.map_nil, Lib.join_cons, Lib.joinTail, List.flatten_cons, List.flatten_nil, List.append_nil]
      simp
    cases r with
    | true =>
      rw [if_pos (show true = true from rfl), if_pos (show true = true from rfl), if_pos b6, hw _ (by decide)]
      have hNv : N.data.toList = Lib.itoa b := by rw [← hTT]
      refine ⟨_, rfl, ?_, ?_⟩
      · simp only [Option.bind_some]
        congr 1
      · simp only [Go.Joins.data_append, hNv, hqv, lineL, if_pos hp]
        simp [rdL]
    | false =>
      rw [if_neg (show ¬ (false = true) by decide), if_neg (show ¬ (false = true) by decide), if_pos b5, hw _ (by decide)]
      have hNv : N.data.toList = Lib.itoa b := by rw [← hTT]
      refine ⟨_, rfl, ?_, ?_⟩
      · simp only [Option.bind_some]
        congr 1
      · simp only [Go.Joins.data_append, hNv, hqv, lineL, if_pos hp]
        simp [rdL]
  · rw [if_neg hp, if_neg hp]
    exact ⟨_, rfl, rfl, by rw [lineL, if_neg hp]⟩

theorem line_val (s : ByteArray) (b p : Int) (r : Bool) (hs : s.size ≤ maxLen) (k : Nat) (hk : s.size + 20 < k) : spec_PodLine.f k s b p r = some (Text.ofL (lineL s b p r)) ∧ impl_PodLine.f k s b p r = some (Text.ofL (lineL s b p r)) := by
  obtain ⟨t, e1, e2, e3⟩ := PodLine_eq s b p r hs k hk
  obtain rfl : t = Text.ofL (lineL s b p r) := Go.WideShapes.bytes_inj e3
  exact ⟨e1, e2⟩


/-- l01Num has an answer at every number of up to eleven digits. -/
theorem num_some_l0 (d : Nat) (hd : d ≤ 100) : ∀ (k : Nat) (x : Int) (acc : ByteArray) (ng : Bool), -10 ^ d < x → x < 10 ^ d → -9223372036854775807 ≤ x → x ≤ 9223372036854775807 → acc.size + d ≤ 1000 → d < k → ∃ t, spec_l01Num.l0 k x acc ng = some t := by
  induction d with
  | zero =>
    intro k x acc ng h0 h1 _ _ hs hk
    obtain ⟨k, rfl⟩ : ∃ m, k = m + 1 := ⟨k - 1, by omega⟩
    obtain rfl : x = 0 := by simp at h0 h1; omega
    simp only [spec_l01Num.l0, if_true]
    cases ng <;> simp <;> omega
  | succ d ih =>
    intro k x acc ng h0 h1 h2 h3 hs hk
    obtain ⟨k, rfl⟩ : ∃ m, k = m + 1 := ⟨k - 1, by omega⟩
    by_cases hx : x = 0
    · subst hx
      simp only [spec_l01Num.l0, if_true]
      cases ng <;> simp <;> omega
    · simp only [spec_l01Num.l0]
      rw [if_neg hx]
      have hq0 : -10 ^ d < Int.tdiv x 10 := by
        rw [Int.pow_succ] at h0
        by_cases hp : 0 ≤ x
        · rw [Int.tdiv_eq_ediv_of_nonneg hp]
          have : (0 : Int) < 10 ^ d := Int.pow_pos (by omega)
          omega
        · have e : Int.tdiv x 10 = -((-x) / 10) := by
            have := Int.neg_tdiv (a := -x) (b := 10)
            rw [Int.neg_neg] at this
            rw [this, Int.tdiv_eq_ediv_of_nonneg (by omega)]
          rw [e]
          omega
      have hq1 : Int.tdiv x 10 < 10 ^ d := by
        rw [Int.pow_succ] at h1
        by_cases hp : 0 ≤ x
        · rw [Int.tdiv_eq_ediv_of_nonneg hp]
          omega
        · have e : Int.tdiv x 10 = -((-x) / 10) := by
            have := Int.neg_tdiv (a := -x) (b := 10)
            rw [Int.neg_neg] at this
            rw [this, Int.tdiv_eq_ediv_of_nonneg (by omega)]
          rw [e]
          have : (0 : Int) < 10 ^ d := Int.pow_pos (by omega)
          omega
      have hq2 : -9223372036854775807 ≤ Int.tdiv x 10 ∧ Int.tdiv x 10 ≤ 9223372036854775807 := by
        by_cases hp : 0 ≤ x
        · rw [Int.tdiv_eq_ediv_of_nonneg hp]
          omega
        · have e : Int.tdiv x 10 = -((-x) / 10) := by
            have := Int.neg_tdiv (a := -x) (b := 10)
            rw [Int.neg_neg] at this
            rw [this, Int.tdiv_eq_ediv_of_nonneg (by omega)]
          rw [e]
          omega
      rw [Base.wrap_in (x := Int.tdiv x 10) (by omega) (by omega)]
      have hone : ∀ z : Int, (strOfNums [z % 256]).size = 1 := fun z => (str_one (z % 256) (by omega) (by omega)).2
      by_cases hm : Int.tmod x 10 < 0
      · rw [if_pos hm]
        simp only [Option.bind_some]
        rw [if_pos (by rw [hone]; omega)]
        exact ih (by omega) k _ _ ng hq0 hq1 hq2.1 hq2.2 (by rw [ByteArray.size_append, hone]; omega) (by omega)
      · rw [if_neg hm]
        simp only [Option.bind_some]
        rw [if_pos (by rw [hone]; omega)]
        exact ih (by omega) k _ _ ng hq0 hq1 hq2.1 hq2.2 (by rw [ByteArray.size_append, hone]; omega) (by omega)
theorem num_some (x : Int) (h0 : -1000000000000 < x) (h1 : x < 1000000000000) (k : Nat) (hk : 20 < k) : ∃ t, spec_l01Num.f k x = some t := by
  unfold spec_l01Num.f
  by_cases hx : x = 0
  · rw [if_pos hx]
    exact ⟨_, rfl⟩
  · rw [if_neg hx]
    exact num_some_l0 12 (by omega) k x _ _ (by omega) (by omega) (by omega) (by omega) (by show 0 + 12 ≤ 1000; omega) (by omega)
/-- What stands behind the loop of l01Read. -/
def readEnd (k : Nat) (w ds : ByteArray) (x : Int) : Option (Int × Bool) :=
  if (ds.size : Int) < (w.size : Int) then ((spec_l01Num.f k (wrap64 (-x))).bind fun t => (some (wrap64 (-x), (t.toList == w.toList)))) else ((spec_l01Num.f k x).bind fun t => (some (x, (t.toList == w.toList))))
theorem read_l0 (w ds : ByteArray) (hds : ds.size ≤ 10) (d : Nat) : ∀ (k i a : Nat), i + d = ds.size → a < 10 ^ i → d < k →
    ((∃ c ∈ ds.data.toList.drop i, ¬ (48 ≤ c.toNat ∧ c.toNat ≤ 57)) ∧ spec_l01Read.l0 k w ds (a : Int) (i : Int) = some (0, false)) ∨
    ((∀ c ∈ ds.data.toList.drop i, 48 ≤ c.toNat ∧ c.toNat ≤ 57) ∧ ∃ k', k ≤ k' + d + 1 ∧ spec_l01Read.l0 k w ds (a : Int) (i : Int) = readEnd k' w ds (Text.val a (ds.data.toList.drop i) : Nat)) := by
  have hL : ds.data.toList.length = ds.size := data_length ds
  induction d with
  | zero =>
    intro k i a h1 h2 hk
    obtain ⟨k, rfl⟩ : ∃ m, k = m + 1 := ⟨k - 1, by omega⟩
    right
    rw [List.drop_of_length_le (by omega)]
    refine ⟨by simp, k, by omega, ?_⟩
    simp only [spec_l01Read.l0]
    rw [if_neg (by omega)]
    rfl
  | succ d ih =>
    intro k i a h1 h2 hk
    obtain ⟨k, rfl⟩ : ∃ m, k = m + 1 := ⟨k - 1, by omega⟩
    have hi : i < ds.data.toList.length := by omega
    have hdrop : ds.data.toList.drop i = ds.data.toList[i] :: ds.data.toList.drop (i + 1) := List.drop_eq_getElem_cons hi
    simp only [spec_l01Read.l0]
    rw [if_pos (by omega), if_pos (by omega), Base.bt_get ds i hi]
    by_cases hlo : ((ds.data.toList[i].toNat : Nat) : Int) < 48
    · left
      rw [if_pos hlo]
      exact ⟨⟨_, by rw [hdrop]; exact List.mem_cons_self, by omega⟩, rfl⟩
    · by_cases hhi : ((ds.data.toList[i].toNat : Nat) : Int) > 57
      · left
        rw [if_neg hlo, if_pos hhi]
        exact ⟨⟨_, by rw [hdrop]; exact List.mem_cons_self, by omega⟩, rfl⟩
      · rw [if_neg hlo, if_neg hhi]
        have hp : 10 ^ i ≤ 10 ^ 9 := Nat.pow_le_pow_right (by omega) (by omega)
        have ha : a < 1000000000 := by omega
        generalize hc : ds.data.toList[i] = c at *
        have e : wrap64 (wrap64 (wrap64 (10 * (a : Int)) + wrap64 ((c.toNat : Nat) : Int)) - 48) = ((a * 10 + (c.toNat - 48) : Nat) : Int) := by
          rw [Base.wrap_in (x := 10 * (a : Int)) (by omega) (by omega), Base.wrap_in (x := ((c.toNat : Nat) : Int)) (by omega) (by omega), Base.wrap_in (x := 10 * (a : Int) + ((c.toNat : Nat) : Int)) (by omega) (by omega), Base.wrap_in (by omega) (by omega)]
          omega
        have e1 : wrap64 ((i : Int) + 1) = ((i + 1 : Nat) : Int) := by rw [Base.wrap_in (by omega) (by omega)]; omega
        rw [e, e1]
        rcases ih k (i + 1) (a * 10 + (c.toNat - 48)) (by omega) (by rw [Nat.pow_succ]; omega) (by omega) with ⟨⟨x, hx, hn⟩, h⟩ | ⟨h3, k', h4, h5⟩
        · left
          exact ⟨⟨x, by rw [hdrop]; exact List.mem_cons_of_mem _ hx, hn⟩, h⟩
        · right
          refine ⟨?_, k', by omega, ?_⟩
          · rw [hdrop]
            intro x hx
            rcases List.mem_cons.1 hx with rfl | hx
            · omega
            · exact h3 x hx
          · rw [h5, hdrop]
            rfl
theorem readEnd_some (k : Nat) (w ds : ByteArray) (a : Nat) (ha : a < 10000000000) (hk : 20 < k) : ∃ b ok, readEnd k w ds (a : Int) = some (b, ok) := by
  unfold readEnd
  rw [Base.wrap_in (by omega) (by omega)]
  obtain ⟨t1, e1⟩ := num_some (-(a : Int)) (by omega) (by omega) k hk
  obtain ⟨t2, e2⟩ := num_some (a : Int) (by omega) (by omega) k hk
  rw [e1, e2]
  by_cases h : (ds.size : Int) < (w.size : Int)
  · rw [if_pos h]
    exact ⟨_, _, rfl⟩
  · rw [if_neg h]
    exact ⟨_, _, rfl⟩
theorem read_j1_some (k : Nat) (w ds : ByteArray) (hk : 50 < k) : ∃ b ok, spec_l01Read.j1 k w ds = some (b, ok) := by
  obtain ⟨k, rfl⟩ : ∃ m, k = m + 1 := ⟨k - 1, by omega⟩
  simp only [spec_l01Read.j1, spec_in_eq, Option.bind_some]
  by_cases h : 1 ≤ (ds.size : Int) ∧ (ds.size : Int) ≤ 10
  · rw [if_pos (decide_eq_true h)]
    rcases read_l0 w ds (by omega) ds.size k 0 0 (by omega) (by simp) (by omega) with ⟨_, e⟩ | ⟨hd, k', h4, e⟩
    · exact ⟨_, _, e⟩
    · have hv := Text.val_lt (ds.data.toList.drop 0) 0 0 (by simp) hd
      have hl : (ds.data.toList.drop 0).length = ds.size := by rw [List.drop_zero]; exact data_length ds
      have hp : 10 ^ (0 + (ds.data.toList.drop 0).length) ≤ 10 ^ 10 := Nat.pow_le_pow_right (by omega) (by omega)
      obtain ⟨b, ok, e2⟩ := readEnd_some k' w ds (Text.val 0 (ds.data.toList.drop 0)) (by omega) (by omega)
      exact ⟨b, ok, e.trans e2⟩
  · rw [if_neg (by simpa using h)]
    exact ⟨_, _, rfl⟩
theorem read_some (k : Nat) (w : ByteArray) (hk : 60 < k) : ∃ b ok, spec_l01Read.f k w = some (b, ok) := by
  unfold spec_l01Read.f
  obtain ⟨k, rfl⟩ : ∃ m, k = m + 1 := ⟨k - 1, by omega⟩
  by_cases h : (w.size : Int) > 0
  · rw [if_pos h, if_pos (by omega)]
    simp only [spec_l01Read.j0]
    by_cases hb : (bt w 0 == 45) = true
    · rw [if_pos hb, if_pos (by omega)]
      exact read_j1_some k w _ (by omega)
    · rw [if_neg hb]
      exact read_j1_some k w _ (by omega)
  · rw [if_neg h]
    simp only [spec_l01Read.j0]
    rw [if_neg (by simp)]
    exact read_j1_some k w _ (by omega)
theorem digs_len (b : Int) (h0 : 0 ≤ b) (h1 : b < 10000000000) : (Lib.itoa b).length ≤ 10 := by
  unfold Lib.itoa
  rw [if_neg (by omega)]
  by_cases hx : b.toNat = 0
  · rw [hx, Lib.decDigits_one (by omega)]
    simp
  · have := dig_len 10 b.toNat (by omega)
    unfold dig at this
    rw [if_neg hx] at this
    exact this
/-- A numeral is read as its number. -/
theorem read_itoa (k : Nat) (b : Int) (h0 : 0 ≤ b) (h1 : b < 10000000000) (hk : 60 < k) : spec_l01Read.f k (Text.ofL (Lib.itoa b)) = some (b, true) := by
  have hi : Lib.itoa b = Lib.decDigits b.toNat := by unfold Lib.itoa; rw [if_neg (by omega)]
  have hlen := digs_len b h0 h1
  have hne := Text.digits_ne b.toNat
  have hmem := Text.digits_mem b.toNat
  have hval := Text.digits_val b.toNat
  rw [hi] at hlen ⊢
  generalize hl : Lib.decDigits b.toNat = l at *
  have hsz : (Text.ofL l).size = l.length := rfl
  have hpos : 0 < l.length := List.length_pos_iff.2 hne
  obtain ⟨k, rfl⟩ : ∃ m, k = m + 2 := ⟨k - 2, by omega⟩
  unfold spec_l01Read.f
  have hb : (bt (Text.ofL l) 0 == 45) = false := by
    have e := Base.bt_get (Text.ofL l) 0 (by rw [Text.ofL_data]; exact hpos)
    have hc := hmem (l[0]) (List.getElem_mem hpos)
    have e2 : (Text.ofL l).data.toList[0]'(by rw [Text.ofL_data]; exact hpos) = l[0] := rfl
    rw [e2] at e
    have e3 : bt (Text.ofL l) 0 = (l[0].toNat : Int) := e
    rw [e3]
    exact beq_eq_false_iff_ne.2 (by omega)
  rw [if_pos (by omega), if_pos (by omega), hb]
  simp only [spec_l01Read.j0, spec_l01Read.j1, spec_in_eq, Option.bind_some]
  rw [if_neg (by simp), if_pos (by rw [decide_eq_true]; omega)]
  rcases read_l0 (Text.ofL l) (Text.ofL l) (by omega) l.length k 0 0 (by omega) (by simp) (by omega) with ⟨⟨c, hc, hn⟩, _⟩ | ⟨_, k', h4, e⟩
  · exact absurd (hmem c hc) hn
  · refine e.trans ?_
    unfold readEnd
    rw [if_neg (by omega), List.drop_zero, Text.ofL_data, hval]
    have e2 : ((b.toNat : Nat) : Int) = b := by omega
    rw [e2, num_eq b h0 (by omega) k' (by omega)]
    have : (⟨(Lib.itoa b).toArray⟩ : ByteArray) = Text.ofL l := by rw [hi]; rfl
    rw [this]
    simp


theorem parts_l0 (s : ByteArray) (hs : s.size ≤ 1000) (d : Nat) : ∀ (k : Nat) (out : List ByteArray) (at_ i : Nat), at_ ≤ i → i + d = s.size → out.length + d ≤ 10000 → d + 1 < k →
    spec_l01Parts.l0 k s 32 out (at_ : Int) (i : Int) = some (out ++ (Text.cutL 32 ((s.data.toList.drop at_).take (i - at_)) (s.data.toList.drop i)).map Text.ofL) := by
  have hL : s.data.toList.length = s.size := data_length s
  have hx : ∀ a b : Nat, s.extract a b = Text.ofL ((s.data.toList.drop a).take (b - a)) := fun a b => by
    apply Go.WideShapes.bytes_inj
    rw [Lib.extract_data]
    rfl
  induction d with
  | zero =>
    intro k out at_ i h1 h2 h3 hk
    obtain ⟨k, rfl⟩ : ∃ m, k = m + 2 := ⟨k - 2, by omega⟩
    obtain rfl : i = s.size := by omega
    rw [spec_l01Parts.l0, if_pos (by omega), if_pos rfl, if_pos (by omega), if_pos (by omega), if_pos (by omega), Base.wrap_in (by omega) (by omega), spec_l01Parts.l0, if_neg (by omega)]
    rw [Int.toNat_natCast, Int.toNat_natCast, hx, List.drop_of_length_le (i := s.size) (by omega)]
    simp [Text.cutL]
  | succ d ih =>
    intro k out at_ i h1 h2 h3 hk
    obtain ⟨k, rfl⟩ : ∃ m, k = m + 1 := ⟨k - 1, by omega⟩
    have hi : i < s.data.toList.length := by omega
    have e1 : ((i : Int) + 1) = ((i + 1 : Nat) : Int) := by omega
    have hdrop : s.data.toList.drop i = s.data.toList[i] :: s.data.toList.drop (i + 1) := List.drop_eq_getElem_cons hi
    rw [spec_l01Parts.l0, if_pos (by omega), if_neg (by omega), if_pos (by omega), if_pos (by omega), Base.bt_get s i hi, Base.wrap_in (by omega) (by omega), e1]
    by_cases hc : s.data.toList[i] = 32
    · have hc2 : ((s.data.toList[i].toNat : Nat) : Int) = 32 := by rw [hc]; rfl
      rw [if_pos hc2, if_pos (by omega), if_pos (by omega), if_pos (by omega), ih k _ (i + 1) (i + 1) (by omega) (by omega) (by simp; omega) (by omega)]
      rw [Int.toNat_natCast, Int.toNat_natCast, hx, hdrop, Text.cutL, if_pos hc, Nat.sub_self, List.take_zero]
      simp
    · have hc2 : ¬ ((s.data.toList[i].toNat : Nat) : Int) = 32 := fun e => hc (by
        apply UInt8.toNat_inj.1
        have : s.data.toList[i].toNat = 32 := by omega
        rw [this]
        rfl)
      rw [if_neg hc2, ih k _ at_ (i + 1) (by omega) (by omega) (by omega) (by omega)]
      rw [hdrop, Text.cutL, if_neg hc]
      have e2 : (s.data.toList.drop at_).take (i + 1 - at_) = (s.data.toList.drop at_).take (i - at_) ++ [s.data.toList[i]] := by
        rw [show i + 1 - at_ = (i - at_) + 1 by omega, List.take_succ_eq_append_getElem (by simp; omega)]
        congr 2
        rw [List.getElem_drop]
        congr 1
        omega
      rw [e2]
theorem parts_eq (s : ByteArray) (hs : s.size ≤ 1000) (k : Nat) (hk : s.size + 1 < k) : spec_l01Parts.f k s 32 = some ((Text.cutL 32 [] s.data.toList).map Text.ofL) := by
  unfold spec_l01Parts.f
  have h := parts_l0 s hs s.size k [] 0 0 (by omega) (by omega) (by simp; omega) (by omega)
  simpa using h
theorem split_eq (s : ByteArray) (hs : s.size ≤ 2000000) (n : Int) : impl_split.f s n = some ((Text.cutL 32 [] s.data.toList).map Text.ofL, (((Text.cutL 32 [] s.data.toList).length : Int) == n)) := by
  unfold impl_split.f strings_Split.f
  rw [if_pos (by omega), if_pos (by decide), Text.splitB_cut s 32]
  simp


/-- A name holds no blank. -/
theorem name_chr (s : ByteArray) (d : Nat) : ∀ i : Nat, i + d = s.size → Base.nameRest s d i = true → ∀ c ∈ s.data.toList.drop i, c ≠ 32 := by
  have hL : s.data.toList.length = s.size := data_length s
  induction d with
  | zero =>
    intro i h1 _
    rw [List.drop_of_length_le (by omega)]
    simp
  | succ d ih =>
    intro i h1 h2
    have hi : i < s.data.toList.length := by omega
    rw [List.drop_eq_getElem_cons hi]
    simp only [Base.nameRest, Bool.and_eq_true] at h2
    have h3 := ih (i + 1) (by omega) (by have := h2.2; rw [show ((i + 1 : Nat) : Int) = (i : Int) + 1 by omega]; exact this)
    intro c hc
    rcases List.mem_cons.1 hc with rfl | hc
    · intro e
      have h4 := h2.1
      rw [Base.bt_get s i hi, e] at h4
      exact absurd h4 (by decide)
    · exact h3 c hc
theorem name_blank {s : ByteArray} (h : Base.nameB s = true) : (32 : UInt8) ∉ s.data.toList := by
  simp only [Base.nameB, Bool.and_eq_true] at h
  intro hm
  have := name_chr s s.size 0 (by omega) (by simpa using h.1) 32 (by simpa using hm)
  exact this rfl
theorem itoa_blank (b : Int) (h0 : 0 ≤ b) : (32 : UInt8) ∉ Lib.itoa b := by
  unfold Lib.itoa
  rw [if_neg (by omega)]
  intro hm
  have := Text.digits_mem _ _ hm
  exact absurd this (by decide)
theorem ph_blank (p : Int) : (32 : UInt8) ∉ phL p := by
  unfold phL
  split
  · decide
  · split <;> decide
theorem rd_blank (r : Bool) : (32 : UInt8) ∉ rdL r := by cases r <;> decide
/-- The words of a pod's line. -/
theorem line_cut (s : ByteArray) (b p : Int) (r : Bool) (h : Base.podB s b p = true) : Text.cutL 32 [] (lineL s b p r) = [s.data.toList, Lib.itoa b, phL p, rdL r] := by
  unfold lineL
  rw [if_pos h]
  simp only [Base.podB, Bool.and_eq_true, decide_eq_true_eq] at h
  rw [Text.cutL_step _ _ _ _ (name_blank h.1.1), Text.cutL_step _ _ _ _ (itoa_blank b h.1.2.1), Text.cutL_step _ _ _ _ (ph_blank p), Text.cutL_last _ _ _ (rd_blank r)]
  simp
theorem line_len (s : ByteArray) (b p : Int) (r : Bool) : (lineL s b p r).length ≤ 50 := by
  unfold lineL
  by_cases h : Base.podB s b p = true
  · rw [if_pos h]
    simp only [Base.podB, Bool.and_eq_true, decide_eq_true_eq] at h
    have h1 := name_size h.1.1
    have h2 := digs_len b h.1.2.1 (by omega)
    have h3 := data_length s
    have h4 : (phL p).length ≤ 7 := by
      unfold phL
      split
      · decide
      · split <;> decide
    have h5 : (rdL r).length ≤ 7 := by cases r <;> decide
    simp only [List.length_append, List.length_cons]
    omega
  · rw [if_neg h]
    simp
theorem ph_inj (p q : Int) (hp : 0 ≤ p ∧ p ≤ 2) (hq : 0 ≤ q ∧ q ≤ 2) (h : phL p = phL q) : p = q := by
  obtain rfl | rfl | rfl : p = 0 ∨ p = 1 ∨ p = 2 := by omega
  all_goals
    obtain rfl | rfl | rfl : q = 0 ∨ q = 1 ∨ q = 2 := by omega
    all_goals first | rfl | exact absurd h (by decide)
theorem rd_inj (r q : Bool) (h : rdL r = rdL q) : r = q := by
  cases r <;> cases q <;> first | rfl | exact absurd h (by decide)
theorem phases_idx (k : Nat) (w : ByteArray) (hk : 10 < k) : ∃ q : Int, slices_Index_string_string.f k [(⟨#[114, 117, 110, 115]⟩ : ByteArray), (⟨#[102, 97, 105, 108, 101, 100]⟩ : ByteArray), (⟨#[100, 101, 108, 101, 116, 101, 100]⟩ : ByteArray)] w = some q ∧ (∀ p, 0 ≤ p → p ≤ 2 → w.data.toList = phL p → q = p) := by
  obtain ⟨k, rfl⟩ : ∃ m, k = m + 4 := ⟨k - 4, by omega⟩
  unfold slices_Index_string_string.f
  have e1 : wrap64 (0 + 1) = 1 := Base.wrap_in (by omega) (by omega)
  have e2 : wrap64 (1 + 1) = 2 := Base.wrap_in (by omega) (by omega)
  have e3 : wrap64 (2 + 1) = 3 := Base.wrap_in (by omega) (by omega)
  have hl : (([(⟨#[114, 117, 110, 115]⟩ : ByteArray), (⟨#[102, 97, 105, 108, 101, 100]⟩ : ByteArray), (⟨#[100, 101, 108, 101, 116, 101, 100]⟩ : ByteArray)] : List ByteArray).length : Int) = 3 := rfl
  have ht : ∀ z : ByteArray, z.toList = z.data.toList := fun z => ByteArray.toList_eq z
  rw [hl]
  rw [slices_Index_string_string.l0, if_pos (by omega), if_pos (by omega), hl, if_pos (by omega), e1]
  have r0 : (rdOf ByteArray.empty [(⟨#[114, 117, 110, 115]⟩ : ByteArray), (⟨#[102, 97, 105, 108, 101, 100]⟩ : ByteArray), (⟨#[100, 101, 108, 101, 116, 101, 100]⟩ : ByteArray)] 0) = ⟨#[114, 117, 110, 115]⟩ := rfl
  have r1 : (rdOf ByteArray.empty [(⟨#[114, 117, 110, 115]⟩ : ByteArray), (⟨#[102, 97, 105, 108, 101, 100]⟩ : ByteArray), (⟨#[100, 101, 108, 101, 116, 101, 100]⟩ : ByteArray)] 1) = ⟨#[102, 97, 105, 108, 101, 100]⟩ := rfl
  have r2 : (rdOf ByteArray.empty [(⟨#[114, 117, 110, 115]⟩ : ByteArray), (⟨#[102, 97, 105, 108, 101, 100]⟩ : ByteArray), (⟨#[100, 101, 108, 101, 116, 101, 100]⟩ : ByteArray)] 2) = ⟨#[100, 101, 108, 101, 116, 101, 100]⟩ := rfl
  have fin : ∀ q : Int, (0 ≤ q ∧ q ≤ 2 → w.data.toList = phL q) → (¬ (0 ≤ q ∧ q ≤ 2) → ∀ p, 0 ≤ p → p ≤ 2 → w.data.toList ≠ phL p) → ∀ p, 0 ≤ p → p ≤ 2 → w.data.toList = phL p → q = p := by
    intro q h1 h2 p p0 p1 hp
    by_cases hq : 0 ≤ q ∧ q ≤ 2
    · exact ph_inj q p hq ⟨p0, p1⟩ ((h1 hq).symm.trans hp)
    · exact absurd hp (h2 hq p p0 p1)
  rw [r0]
  by_cases c0 : w.toList = (⟨#[114, 117, 110, 115]⟩ : ByteArray).toList
  · rw [if_pos c0]
    rw [ht, ht] at c0
    exact ⟨0, rfl, fin 0 (fun _ => c0) (fun h => absurd (by omega) h)⟩
  · rw [if_neg c0, slices_Index_string_string.l0, if_pos (by omega), if_pos (by omega), hl, if_pos (by omega), e2, r1]
    by_cases c1 : w.toList = (⟨#[102, 97, 105, 108, 101, 100]⟩ : ByteArray).toList
    · rw [if_pos c1]
      rw [ht, ht] at c1
      exact ⟨1, rfl, fin 1 (fun _ => c1) (fun h => absurd (by omega) h)⟩
    · rw [if_neg c1, slices_Index_string_string.l0, if_pos (by omega), if_pos (by omega), hl, if_pos (by omega), e3, r2]
      by_cases c2 : w.toList = (⟨#[100, 101, 108, 101, 116, 101, 100]⟩ : ByteArray).toList
      · rw [if_pos c2]
        rw [ht, ht] at c2
        exact ⟨2, rfl, fin 2 (fun _ => c2) (fun h => absurd (by omega) h)⟩
      · rw [if_neg c2, slices_Index_string_string.l0, if_neg (by omega)]
        rw [ht, ht] at c0 c1 c2
        refine ⟨-1, rfl, fin (-1) (fun h => absurd h (by omega)) (fun _ p p0 p1 => ?_)⟩
        obtain rfl | rfl | rfl : p = 0 ∨ p = 1 ∨ p = 2 := by omega
        · exact c0
        · exact c1
        · exact c2


def nonePod : ByteArray × Int × Int × Bool × Bool := ((⟨#[]⟩ : ByteArray), 0, 0, false, false)
/-- Whether the line s is the line of this pod. -/
def isLine (s w0 : ByteArray) (b p : Int) (r : Bool) : Bool := decide (lineL w0 b p r = s.data.toList)
theorem one_step (s w0 : ByteArray) (P : List ByteArray) (hP : 0 < P.length) (h0 : rdOf ByteArray.empty P 0 = w0) (hw : w0.size ≤ maxLen) (b p x9 : Int) (hx : x9 < 2) (k : Nat) (hk : w0.size + 20 < k) :
    spec_ParsePod.l1 (k + 1) s P b p x9 (⟨#[]⟩ : ByteArray) 0 0 false = if isLine s w0 b p (x9 == 1) = true then some (w0, b, p, (x9 == 1), true) else spec_ParsePod.l1 k s P b p (wrap64 (x9 + 1)) (⟨#[]⟩ : ByteArray) 0 0 false := by
  rw [spec_ParsePod.l1, if_pos hx, if_pos (by omega), h0, (line_val w0 b p (x9 == 1) hw k hk).1]
  simp only [Option.bind_some]
  have cond : (Text.ofL (lineL w0 b p (x9 == 1))).toList = s.toList ↔ lineL w0 b p (x9 == 1) = s.data.toList := by rw [ByteArray.toList_eq, ByteArray.toList_eq, Text.ofL_data]
  by_cases h : lineL w0 b p (x9 == 1) = s.data.toList
  · rw [if_pos (cond.2 h), if_pos (show isLine s w0 b p (x9 == 1) = true from decide_eq_true h)]
  · rw [if_neg (fun e => h (cond.1 e)), if_neg (show ¬ isLine s w0 b p (x9 == 1) = true by rw [isLine, decide_eq_false h]; simp)]
theorem end_step (s : ByteArray) (P : List ByteArray) (b p : Int) (k : Nat) : spec_ParsePod.l1 (k + 1) s P b p 2 (⟨#[]⟩ : ByteArray) 0 0 false = spec_ParsePod.l0 k s P b (wrap64 (p + 1)) (⟨#[]⟩ : ByteArray) 0 0 false := by
  rw [spec_ParsePod.l1, if_neg (by omega)]
theorem spec_loop (s w0 : ByteArray) (P : List ByteArray) (hP : 0 < P.length) (h0 : rdOf ByteArray.empty P 0 = w0) (hw : w0.size ≤ maxLen) (b : Int) (k : Nat) (hk : w0.size + 40 < k) :
    spec_ParsePod.l0 k s P b 0 (⟨#[]⟩ : ByteArray) 0 0 false =
      some (if isLine s w0 b 0 false = true then (w0, b, 0, false, true) else if isLine s w0 b 0 true = true then (w0, b, 0, true, true)
        else if isLine s w0 b 1 false = true then (w0, b, 1, false, true) else if isLine s w0 b 1 true = true then (w0, b, 1, true, true)
        else if isLine s w0 b 2 false = true then (w0, b, 2, false, true) else if isLine s w0 b 2 true = true then (w0, b, 2, true, true) else nonePod) := by
  obtain ⟨k, rfl⟩ : ∃ m, k = m + 13 := ⟨k - 13, by omega⟩
  have e1 : wrap64 (0 + 1) = 1 := Base.wrap_in (by omega) (by omega)
  have e2 : wrap64 (1 + 1) = 2 := Base.wrap_in (by omega) (by omega)
  have e3 : wrap64 (2 + 1) = 3 := Base.wrap_in (by omega) (by omega)
  have z : ((0 : Int) == 1) = false := rfl
  have o : ((1 : Int) == 1) = true := rfl
  have row : ∀ (p : Int) (k : Nat), w0.size + 20 < k → spec_ParsePod.l1 (k + 3) s P b p 0 (⟨#[]⟩ : ByteArray) 0 0 false =
      if isLine s w0 b p false = true then some (w0, b, p, false, true) else if isLine s w0 b p true = true then some (w0, b, p, true, true) else spec_ParsePod.l0 k s P b (wrap64 (p + 1)) (⟨#[]⟩ : ByteArray) 0 0 false := by
    intro p k hk
    rw [one_step s w0 P hP h0 hw b p 0 (by omega) (k + 2) (by omega), e1, one_step s w0 P hP h0 hw b p 1 (by omega) (k + 1) (by omega), e2, end_step, z, o]
  have st : ∀ (p : Int) (k : Nat), p < 3 → spec_ParsePod.l0 (k + 1) s P b p (⟨#[]⟩ : ByteArray) 0 0 false = spec_ParsePod.l1 k s P b p 0 (⟨#[]⟩ : ByteArray) 0 0 false := by
    intro p k hp
    rw [spec_ParsePod.l0, if_pos hp]
  have fin : spec_ParsePod.l0 (k + 1) s P b 3 (⟨#[]⟩ : ByteArray) 0 0 false = some nonePod := by
    rw [spec_ParsePod.l0, if_neg (by omega)]
    rfl
  rw [st 0 (k + 12) (by omega), row 0 (k + 9) (by omega), e1, st 1 (k + 8) (by omega), row 1 (k + 5) (by omega), e2, st 2 (k + 4) (by omega), row 2 (k + 1) (by omega), e3, fin]
  repeat' split
  all_goals rfl
/-- Both give the pod whose line it is. -/
theorem parse_eq (s : ByteArray) (hs : s.size ≤ 1048576) (k : Nat) (hk : s.size + 100 < k) : ∃ t, spec_ParsePod.f k s = some t ∧ impl_ParsePod.f k s = some t := by
  have hL : s.data.toList.length = s.size := data_length s
  have hlen := Text.cutL_len 32 s.data.toList []
  have hspl := split_eq s (by omega) 4
  have hparts := parts_eq s
  generalize hP : Text.cutL 32 [] s.data.toList = P at *
  -- what the program answers
  unfold impl_ParsePod.f
  rw [hspl]
  simp only [Option.bind_some, List.length_map]
  by_cases h4 : P.length = 4
  · match P, h4 with
    | [u0, u1, u2, u3], _ =>
      have l0 := hlen u0 (by simp)
      have l1 := hlen u1 (by simp)
      simp only [List.length_nil, Nat.zero_add] at l0 l1
      have hb4 : (((([u0, u1, u2, u3] : List (List UInt8)).length : Nat) : Int) == 4) = true := rfl
      have r0 : rdOf ByteArray.empty ([u0, u1, u2, u3].map Text.ofL) 0 = Text.ofL u0 := rfl
      have r1 : rdOf ByteArray.empty ([u0, u1, u2, u3].map Text.ofL) 1 = Text.ofL u1 := rfl
      have r2 : rdOf ByteArray.empty ([u0, u1, u2, u3].map Text.ofL) 2 = Text.ofL u2 := rfl
      have r3 : rdOf ByteArray.empty ([u0, u1, u2, u3].map Text.ofL) 3 = Text.ofL u3 := rfl
      have hlc : (([u0, u1, u2, u3] : List (List UInt8)).length : Int) = 4 := rfl
      have z0 : (Text.ofL u0).size ≤ maxLen := by rw [Text.ofL_size]; unfold maxLen; omega
      have z0' : (Text.ofL u0).size ≤ s.size := by rw [Text.ofL_size]; omega
      obtain ⟨q, hq, hq2⟩ := phases_idx k (Text.ofL u2) (by omega)
      rw [if_pos hb4, hlc, if_pos (by omega), if_pos (by omega), r0, r1, r2, r3]
      simp only [impl_atoi.f]
      rw [if_pos (by rw [Text.ofL_size]; omega)]
      simp only [Option.bind_some, impl_phaseNames.f]
      rw [if_pos (by omega), hq]
      simp only [Option.bind_some]
      rw [if_pos (by omega)]
      generalize hR : ((Text.ofL u3).toList == ([114, 101, 97, 100, 121] : List UInt8)) = R
      generalize hA : atoiOf (Text.ofL u1) = A
      rw [impl_PodOk_eq (Text.ofL u0) A q R z0 k (by omega)]
      simp only [Option.bind_some]
      rw [(line_val (Text.ofL u0) A q R z0 k (by omega)).2]
      simp only [Option.bind_some]
      have cond : (Text.ofL (lineL (Text.ofL u0) A q R)).toList = s.toList ↔ lineL (Text.ofL u0) A q R = s.data.toList := by rw [ByteArray.toList_eq, ByteArray.toList_eq, Text.ofL_data]
      -- whatever line it is, its words are those of the pod
      have words : ∀ b p r, lineL (Text.ofL u0) b p r = s.data.toList → Base.podB (Text.ofL u0) b p = true ∧ u1 = Lib.itoa b ∧ u2 = phL p ∧ u3 = rdL r := by
        intro b p r h
        by_cases hp : Base.podB (Text.ofL u0) b p = true
        · have hc := line_cut (Text.ofL u0) b p r hp
          rw [h, hP] at hc
          simp only [List.cons.injEq, and_true] at hc
          exact ⟨hp, hc.2.1, hc.2.2.1, hc.2.2.2⟩
        · exfalso
          unfold lineL at h
          rw [if_neg hp] at h
          rw [← h] at hP
          simp [Text.cutL] at hP
      by_cases hex : ∃ b p r, lineL (Text.ofL u0) b p r = s.data.toList
      · obtain ⟨b, p, r, hl⟩ := hex
        obtain ⟨hp, rfl, rfl, rfl⟩ := words b p r hl
        have hp' := hp
        simp only [Base.podB, Bool.and_eq_true, decide_eq_true_eq] at hp'
        obtain ⟨⟨hn, b0, b1⟩, p0, p1⟩ := hp'
        have hAb : A = b := by
          rw [← hA]
          unfold atoiOf
          rw [Text.ofL_data, Text.atoi_itoa b b0 (by omega)]
        have hqp : q = p := hq2 p p0 p1 rfl
        have hRr : R = r := by
          rw [← hR, ByteArray.toList_eq, Text.ofL_data]
          cases r <;> rfl
        subst hAb hqp hRr
        rw [if_pos hp, if_pos (cond.2 hl)]
        refine ⟨_, ?_, rfl⟩
        have hs50 : s.size ≤ 50 := by
          have := line_len (Text.ofL u0) A q R
          rw [hl] at this
          omega
        unfold spec_ParsePod.f
        rw [if_neg (by omega), hparts (by omega) k (by omega)]
        simp only [Option.bind_some, List.length_map]
        rw [hlc, if_pos rfl, if_pos (by omega), r1, read_itoa k A b0 (by omega) (by omega)]
        simp only [Option.bind_some]
        rw [if_pos trivial, spec_loop s (Text.ofL u0) _ (by simp) r0 z0 A k (by omega)]
        have only : ∀ p' r', 0 ≤ p' → p' ≤ 2 → isLine s (Text.ofL u0) A p' r' = (decide (p' = q) && decide (r' = R)) := by
          intro p' r' h0' h1'
          unfold isLine
          by_cases e : lineL (Text.ofL u0) A p' r' = s.data.toList
          · obtain ⟨_, _, w2, w3⟩ := words A p' r' e
            obtain rfl := ph_inj q p' ⟨p0, p1⟩ ⟨h0', h1'⟩ w2
            obtain rfl := rd_inj R r' w3
            simp [e]
          · rw [decide_eq_false e]
            by_cases e1 : p' = q
            · by_cases e2 : r' = R
              · subst e1 e2
                exact absurd hl e
              · simp [e2]
            · simp [e1]
        rw [only 0 false (by omega) (by omega), only 0 true (by omega) (by omega), only 1 false (by omega) (by omega), only 1 true (by omega) (by omega), only 2 false (by omega) (by omega), only 2 true (by omega) (by omega)]
        obtain rfl | rfl | rfl : q = 0 ∨ q = 1 ∨ q = 2 := by omega
        all_goals cases R <;> simp
      · have nol : ∀ b p r, ¬ lineL (Text.ofL u0) b p r = s.data.toList := fun b p r h => hex ⟨b, p, r, h⟩
        rw [if_neg (fun e => nol A q R (cond.1 e))]
        refine ⟨nonePod, ?_, by split <;> rfl⟩
        unfold spec_ParsePod.f
        by_cases h50 : (s.size : Int) > 50
        · rw [if_pos h50]
          rfl
        · rw [if_neg h50, hparts (by omega) k (by omega)]
          simp only [Option.bind_some, List.length_map]
          rw [hlc, if_pos rfl, if_pos (by omega), r1]
          obtain ⟨b, ok, e⟩ := read_some k (Text.ofL u1) (by omega)
          rw [e]
          simp only [Option.bind_some]
          by_cases hok : ok = true
          · rw [if_pos hok, spec_loop s (Text.ofL u0) _ (by simp) r0 z0 b k (by omega)]
            have no : ∀ p r, isLine s (Text.ofL u0) b p r = false := fun p r => decide_eq_false (nol b p r)
            simp only [no]
            simp
          · rw [if_neg hok]
            rfl
  · have hb4 : (((P.length : Nat) : Int) == 4) = false := beq_eq_false_iff_ne.2 (by omega)
    rw [if_neg (by rw [hb4]; simp)]
    refine ⟨_, ?_, rfl⟩
    unfold spec_ParsePod.f
    by_cases h50 : (s.size : Int) > 50
    · rw [if_pos h50]
    · rw [if_neg h50, hparts (by omega) k (by omega)]
      simp only [Option.bind_some, List.length_map]
      rw [if_neg (by omega)]
theorem FnExactParsePod (s : ByteArray) (hs : s.size ≤ maxLen) : ∃ k, laws_FnExactParsePod.f k s = some true := by
  refine ⟨s.size + 101, ?_⟩
  unfold laws_FnExactParsePod.f
  by_cases h : (s.size : Int) > 1048576
  · rw [if_pos h]
  · rw [if_neg h]
    obtain ⟨⟨t0, t1, t2, t3, t4⟩, e1, e2⟩ := parse_eq s (by omega) (s.size + 101) (by omega)
    rw [e1, e2]
    simp [laws_eqPod.f]

end Go.Proofs.YtbbnlagdahickaaDoor.Pure
