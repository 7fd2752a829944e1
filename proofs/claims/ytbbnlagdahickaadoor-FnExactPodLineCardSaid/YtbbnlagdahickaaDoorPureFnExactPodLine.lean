/- The pure half of FnExactPodLine: the Lean functions of the program and of the reference agree, so the law's function answers true. Conditions: those of the statement, spelled at the theorem. -/
import Derived.Test.YtbbnlagdahickaaDoorOFnExactPodLinex
import Derived.Test.YtbbnlagdahickaaDoorBase
namespace Go.Proofs.YtbbnlagdahickaaDoor.Pure
open Go.RowKit Go.Proofs.YtbbnlagdahickaaDoor.PFnExactPodLine Go.Proofs.YtbbnlagdahickaaDoorW.PrintWords Go.Proofs.YtbbnlagdahickaaDoorW.PrintLast
set_option linter.unusedSimpArgs false
set_option linter.unusedVariables false

theorem spec_in_eq (a b c : Int) : spec_l01In.f a b c = some (decide (b ≤ a ∧ a ≤ c)) := by
  unfold spec_l01In.f
  by_cases h : b ≤ a <;> simp [h]
theorem impl_in_eq (a b c : Int) : impl_in.f a b c = some (decide (b ≤ a ∧ a ≤ c)) := by
  unfold impl_in.f
  by_cases h : b ≤ a <;> simp [h]

theorem spec_NameOk_l0 (s : ByteArray) (hs : s.size ≤ maxLen) (d : Nat) : ∀ (k : Nat) (i : Int), 0 ≤ i → (s.size : Int) - i = d → d < k → spec_NameOk.l0 k s i = some (Base.nameRest s d i) := by
  unfold maxLen at hs
  induction d with
  | zero =>
    intro k i h0 hd hk
    obtain ⟨k, rfl⟩ : ∃ m, k = m + 1 := ⟨k - 1, by omega⟩
    simp only [spec_NameOk.l0]
    rw [if_neg (by omega)]
    rfl
  | succ d ih =>
    intro k i h0 hd hk
    obtain ⟨k, rfl⟩ : ∃ m, k = m + 1 := ⟨k - 1, by omega⟩
    have hr := ih k (i + 1) (by omega) (by omega) (by omega)
    simp only [spec_NameOk.l0]
    rw [if_pos (by omega), if_pos h0, Base.wrap_in (by omega) (by omega), hr]
    simp only [Base.nameRest, Base.chr]
    by_cases h1 : bt s i < 97 <;> by_cases h2 : bt s i < 48 <;> by_cases h3 : bt s i > 57 <;> by_cases h4 : bt s i > 122 <;> simp [h1, h2, h3, h4]
theorem spec_NameOk_eq (s : ByteArray) (hs : s.size ≤ maxLen) (k : Nat) (hk : s.size < k) : spec_NameOk.f k s = some (Base.nameB s) := by
  unfold spec_NameOk.f Base.nameB
  rw [spec_in_eq, spec_NameOk_l0 s hs s.size k 0 (by omega) (by omega) hk]
  by_cases h : 1 ≤ (s.size : Int) ∧ (s.size : Int) ≤ 12 <;> simp [h]
theorem impl_NameOk_l0 (s : ByteArray) (hs : s.size ≤ maxLen) (d : Nat) : ∀ (k : Nat) (i : Int), 0 ≤ i → (s.size : Int) - i = d → d < k → impl_NameOk.l0 k s (s.size : Int) i = some (Base.nameRest s d i && decide (1 ≤ (s.size : Int) ∧ (s.size : Int) ≤ 12)) := by
  unfold maxLen at hs
  induction d with
  | zero =>
    intro k i h0 hd hk
    obtain ⟨k, rfl⟩ : ∃ m, k = m + 1 := ⟨k - 1, by omega⟩
    simp only [impl_NameOk.l0]
    rw [if_neg (by omega), impl_in_eq]
    simp [Base.nameRest]
  | succ d ih =>
    intro k i h0 hd hk
    obtain ⟨k, rfl⟩ : ∃ m, k = m + 1 := ⟨k - 1, by omega⟩
    have hr := ih k (i + 1) (by omega) (by omega) (by omega)
    simp only [impl_NameOk.l0]
    rw [if_pos (by omega), if_pos h0, if_pos (by omega), Base.wrap_in (by omega) (by omega), hr]
    simp only [Base.nameRest, Base.chr]
    by_cases h1 : bt s i < 97 <;> by_cases h2 : bt s i < 48 <;> by_cases h3 : bt s i > 57 <;> by_cases h4 : bt s i > 122 <;> simp [h1, h2, h3, h4]
theorem impl_NameOk_eq (s : ByteArray) (hs : s.size ≤ maxLen) (k : Nat) (hk : s.size < k) : impl_NameOk.f k s = some (Base.nameB s) := by
  unfold impl_NameOk.f Base.nameB
  exact impl_NameOk_l0 s hs s.size k 0 (by omega) (by omega) hk

theorem spec_tick_eq (a : Int) : spec_l02Tick.f a = some (decide (0 ≤ a ∧ a ≤ 1000000000)) := by
  unfold spec_l02Tick.f
  simp only [spec_in_eq, Option.bind_some]
theorem impl_tick_eq (a : Int) : impl_isTick.f a = some (decide (0 ≤ a ∧ a ≤ 1000000000)) := by
  unfold impl_isTick.f
  simp only [impl_in_eq, Option.bind_some]

theorem spec_PodOk_eq (s : ByteArray) (b p : Int) (r : Bool) (hs : s.size ≤ maxLen) (k : Nat) (hk : s.size < k) : spec_PodOk.f k s b p r = some (Base.podB s b p) := by
  unfold spec_PodOk.f Base.podB
  rw [spec_NameOk_eq s hs k hk, spec_tick_eq, spec_in_eq]
  by_cases h1 : Base.nameB s = true <;> by_cases h2 : 0 ≤ b ∧ b ≤ 1000000000 <;> simp [h1, h2]
theorem impl_PodOk_eq (s : ByteArray) (b p : Int) (r : Bool) (hs : s.size ≤ maxLen) (k : Nat) (hk : s.size < k) : impl_PodOk.f k s b p r = some (Base.podB s b p) := by
  unfold impl_PodOk.f Base.podB
  rw [impl_NameOk_eq s hs k hk, impl_tick_eq, impl_in_eq]
  by_cases h1 : Base.nameB s = true <;> by_cases h2 : 0 ≤ b ∧ b ≤ 1000000000 <;> simp [h1, h2]

theorem str_one (c : Int) (h0 : 0 ≤ c) (h1 : c < 256) : (strOfNums [c]).data.toList = [UInt8.ofNat c.toNat] ∧ (strOfNums [c]).size = 1 := by
  unfold strOfNums
  constructor
  · simp
  · rfl
/-- the digits of a number above 0, nothing of 0 -/
def dig (u : Nat) : List UInt8 := if u = 0 then [] else Lib.decDigits u
theorem dig_step (u : Nat) (h : u ≠ 0) : dig u = dig (u / 10) ++ [UInt8.ofNat (48 + u % 10)] := by
  unfold dig
  rw [if_neg h]
  by_cases h1 : u < 10
  · rw [Lib.decDigits, dif_pos h1, if_pos (by omega), Nat.mod_eq_of_lt h1]
    rfl
  · rw [Lib.decDigits, dif_neg h1, if_neg (by omega)]
theorem dig_len (d : Nat) : ∀ u : Nat, u < 10 ^ d → (dig u).length ≤ d := by
  induction d with
  | zero =>
    intro u hu
    obtain rfl : u = 0 := by simp at hu; exact hu
    simp [dig]
  | succ d ih =>
    intro u hu
    by_cases h : u = 0
    · simp [dig, h]
    · rw [dig_step u h]
      have := ih (u / 10) (by rw [Nat.pow_succ] at hu; omega)
      simp
      exact this
theorem dig_nil (acc : ByteArray) : acc = (⟨(dig (0 : Int).toNat).toArray⟩ : ByteArray) ++ acc := by
  apply Go.WideShapes.bytes_inj
  rw [Go.Joins.data_append]
  simp [dig]
theorem num_l0 (d : Nat) (hd : d ≤ 100) : ∀ (k : Nat) (x : Int) (acc : ByteArray), 0 ≤ x → x < 10 ^ d → x ≤ 9223372036854775807 → acc.size + d ≤ 1000 → d < k → spec_l01Num.l0 k x acc false = some ((⟨(dig x.toNat).toArray⟩ : ByteArray) ++ acc) := by
  induction d with
  | zero =>
    intro k x acc h0 h1 h2 hs hk
    obtain ⟨k, rfl⟩ : ∃ m, k = m + 1 := ⟨k - 1, by omega⟩
    obtain rfl : x = 0 := by simp at h1; omega
    simp only [spec_l01Num.l0, if_true, Bool.false_eq_true, if_false]
    exact congrArg some (dig_nil acc)
  | succ d ih =>
    intro k x acc h0 h1 h2 hs hk
    obtain ⟨k, rfl⟩ : ∃ m, k = m + 1 := ⟨k - 1, by omega⟩
    by_cases hx : x = 0
    · subst hx
      simp only [spec_l01Num.l0, if_true, Bool.false_eq_true, if_false]
      exact congrArg some (dig_nil acc)
    · simp only [spec_l01Num.l0]
      rw [if_neg hx]
      have hm : Int.tmod x 10 = x % 10 := Int.tmod_eq_emod_of_nonneg h0
      have hq : Int.tdiv x 10 = x / 10 := Int.tdiv_eq_ediv_of_nonneg h0
      rw [hm, hq, if_neg (by omega), Base.wrap_in (x := 48 + x % 10) (by omega) (by omega), Base.wrap_in (x := x / 10) (by omega) (by omega), Int.emod_eq_of_lt (a := 48 + x % 10) (b := 256) (by omega) (by omega)]
      obtain ⟨s1, s2⟩ := str_one (48 + x % 10) (by omega) (by omega)
      simp only [Option.bind_some]
      rw [if_pos (by omega), ih (by omega) k (x / 10) (strOfNums [48 + x % 10] ++ acc) (by omega) (by rw [Int.pow_succ] at h1; omega) (by omega) (by rw [ByteArray.size_append, s2]; omega) (by omega)]
      congr 1
      apply Go.WideShapes.bytes_inj
      rw [Go.Joins.data_append, Go.Joins.data_append, Go.Joins.data_append, s1]
      have e1 : (x / 10).toNat = x.toNat / 10 := by omega
      have e2 : (48 + x % 10).toNat = 48 + x.toNat % 10 := by omega
      rw [e1, e2]
      show dig (x.toNat / 10) ++ ([UInt8.ofNat (48 + x.toNat % 10)] ++ acc.data.toList) = dig x.toNat ++ acc.data.toList
      rw [dig_step x.toNat (by omega), List.append_assoc]
theorem num_eq (x : Int) (h0 : 0 ≤ x) (h1 : x < 1000000000000) (k : Nat) (hk : 20 < k) : spec_l01Num.f k x = some (⟨(Lib.itoa x).toArray⟩ : ByteArray) := by
  have hi : Lib.itoa x = Lib.decDigits x.toNat := by unfold Lib.itoa; rw [if_neg (by omega)]
  unfold spec_l01Num.f
  by_cases hx : x = 0
  · subst hx
    rw [if_pos rfl, hi, show Int.toNat 0 = 0 from rfl, Lib.decDigits_one (by omega)]
    rfl
  · rw [if_neg hx, decide_eq_false (by omega), num_l0 12 (by omega) k x _ h0 (by omega) (by omega) (by show 0 + 12 ≤ 1000; omega) (by omega)]
    congr 1
    apply Go.WideShapes.bytes_inj
    rw [Go.Joins.data_append, hi]
    have : x.toNat ≠ 0 := by omega
    simp [dig, this]
theorem itoa_len (x : Int) (h0 : 0 ≤ x) (h1 : x < 1000000000000) : (Lib.itoa x).length ≤ 12 := by
  unfold Lib.itoa
  rw [if_neg (by omega)]
  by_cases hx : x.toNat = 0
  · rw [hx, Lib.decDigits_one (by omega)]
    simp
  · have := dig_len 12 x.toNat (by omega)
    unfold dig at this
    rw [if_neg hx] at this
    exact this
theorem number_eq (x : Int) (h0 : 0 ≤ x) (h1 : x < 1000000000000) : impl_number.f x = some (⟨(Lib.itoa x).toArray⟩ : ByteArray) := by
  unfold impl_number.f strconv_Itoa.f
  rw [if_pos (by omega), if_pos (by omega)]
  rfl
theorem size_of (l : List UInt8) : (⟨l.toArray⟩ : ByteArray).size = l.length := rfl

theorem words_eq (l : List ByteArray) (hl : l.length ≤ 10) (hs : ∀ x ∈ l, x.size ≤ 1000) : impl_words.f l = some (⟨(Lib.join (l.map (·.data.toList)) [32]).toArray⟩ : ByteArray) := by
  unfold impl_words.f strings_Join.f
  have hb : ∀ l : List ByteArray, (∀ x ∈ l, x.size ≤ 1000) → (Lib.joinTail [32] (l.map (·.data.toList))).length ≤ 1001 * l.length := by
    intro l
    induction l with
    | nil => intro _; simp [Lib.joinTail]
    | cons a l ih =>
      intro h
      have h1 := ih (fun x hx => h x (List.mem_cons_of_mem _ hx))
      have h2 := h a List.mem_cons_self
      have h3 := data_length a
      simp only [Lib.joinTail, List.map_cons, List.flatten_cons, List.length_append, List.length_cons, List.length_nil] at h1 ⊢
      omega
  have hlen : (Lib.join (l.map (·.data.toList)) [32]).length ≤ 20000 := by
    cases l with
    | nil => simp [Lib.join_nil]
    | cons a l =>
      have h1 := hb l (fun x hx => hs x (List.mem_cons_of_mem _ hx))
      have h2 := hs a List.mem_cons_self
      have h3 := data_length a
      rw [List.map_cons, Lib.join_cons, List.length_append]
      simp only [List.length_cons] at hl
      omega
  rw [if_pos (show (Lib.join (l.map (·.data.toList)) (⟨#[32]⟩ : ByteArray).data.toList).length ≤ 140737488355328 from Nat.le_trans hlen (by omega)), if_pos (by omega)]
  rfl

theorem name_size {s : ByteArray} (h : Base.nameB s = true) : s.size ≤ 12 := by
  simp only [Base.nameB, Bool.and_eq_true, decide_eq_true_eq] at h
  omega
theorem PodLine_eq (s : ByteArray) (b p : Int) (r : Bool) (hs : s.size ≤ maxLen) (k : Nat) (hk : s.size + 20 < k) : ∃ t, spec_PodLine.f k s b p r = some t ∧ impl_PodLine.f k s b p r = some t := by
  unfold spec_PodLine.f impl_PodLine.f
  rw [spec_PodOk_eq s b p r hs k (by omega), impl_PodOk_eq s b p r hs k (by omega)]
  simp only [Option.bind_some]
  by_cases hp : Base.podB s b p = true
  · rw [if_pos hp, if_pos hp]
    have hp' := hp
    simp only [Base.podB, Bool.and_eq_true, decide_eq_true_eq] at hp'
    obtain ⟨⟨hn, b0, b1⟩, p0, p1⟩ := hp'
    have hsz := name_size hn
    rw [num_eq b b0 (by omega) k (by omega), number_eq b b0 (by omega)]
    have hlen := itoa_len b b0 (by omega)
    have hT : (⟨(Lib.itoa b).toArray⟩ : ByteArray).size = (Lib.itoa b).length := rfl
    have e1 : (⟨#[32]⟩ : ByteArray).size = 1 := rfl
    simp only [Option.bind_some, impl_phaseNames.f]
    have hph : ∃ q : ByteArray, q.size ≤ 7 ∧ rdOf ByteArray.empty [(⟨#[114, 117, 110, 115]⟩ : ByteArray), (⟨#[102, 97, 105, 108, 101, 100]⟩ : ByteArray), (⟨#[100, 101, 108, 101, 116, 101, 100]⟩ : ByteArray)] p = q := by
      obtain rfl | rfl | rfl : p = 0 ∨ p = 1 ∨ p = 2 := by omega
      · exact ⟨_, by decide, rfl⟩
      · exact ⟨_, by decide, rfl⟩
      · exact ⟨_, by decide, rfl⟩
    obtain ⟨q, hq, e2⟩ := hph
    rw [e2]
    generalize hTT : (⟨(Lib.itoa b).toArray⟩ : ByteArray) = N at *
    have b1 : s.size + 1 ≤ 9223372036854775807 := by omega
    have b2 : (s ++ (⟨#[32]⟩ : ByteArray)).size + N.size ≤ 9223372036854775807 := by rw [ByteArray.size_append, e1]; omega
    have b3 : ((s ++ (⟨#[32]⟩ : ByteArray)) ++ N).size + 1 ≤ 9223372036854775807 := by rw [ByteArray.size_append, ByteArray.size_append, e1]; omega
    have b4 : (((s ++ (⟨#[32]⟩ : ByteArray)) ++ N) ++ (⟨#[32]⟩ : ByteArray)).size + q.size ≤ 9223372036854775807 := by rw [ByteArray.size_append, ByteArray.size_append, ByteArray.size_append, e1]; omega
    have b5 : ((((s ++ (⟨#[32]⟩ : ByteArray)) ++ N) ++ (⟨#[32]⟩ : ByteArray)) ++ q).size + 8 ≤ 9223372036854775807 := by rw [ByteArray.size_append, ByteArray.size_append, ByteArray.size_append, ByteArray.size_append, e1]; omega
    have b6 : ((((s ++ (⟨#[32]⟩ : ByteArray)) ++ N) ++ (⟨#[32]⟩ : ByteArray)) ++ q).size + 6 ≤ 9223372036854775807 := by omega
    have pl : p < (([(⟨#[114, 117, 110, 115]⟩ : ByteArray), (⟨#[102, 97, 105, 108, 101, 100]⟩ : ByteArray), (⟨#[100, 101, 108, 101, 116, 101, 100]⟩ : ByteArray)] : List ByteArray).length : Int) := by simp; omega
    simp only [if_pos b1, if_pos b2, if_pos b3, if_pos p0, if_pos pl, if_pos b4]
    have hw : ∀ z : ByteArray, z.size ≤ 100 → impl_words.f [s, N, q, z] = some ((((s ++ (⟨#[32]⟩ : ByteArray)) ++ N) ++ (⟨#[32]⟩ : ByteArray)) ++ q ++ ((⟨#[32]⟩ : ByteArray) ++ z)) := by
      intro z hz
      rw [words_eq [s, N, q, z] (by simp) (by
        intro x hx
        simp only [List.mem_cons, List.not_mem_nil, or_false] at hx
        rcases hx with rfl | rfl | rfl | rfl <;> omega)]
      congr 1
      apply Go.WideShapes.bytes_inj
      simp only [Go.Joins.data_append, List.map_cons, List.map_nil, Lib.join_cons, Lib.joinTail, List.flatten_cons, List.flatten_nil, List.append_nil]
      simp
    cases r with
    | true =>
      rw [if_pos (show true = true from rfl), if_pos (show true = true from rfl), if_pos b6, hw _ (by decide)]
      refine ⟨_, rfl, ?_⟩
      simp only [Option.bind_some]
      congr 1
    | false =>
      rw [if_neg (show ¬ (false = true) by decide), if_neg (show ¬ (false = true) by decide), if_pos b5, hw _ (by decide)]
      refine ⟨_, rfl, ?_⟩
      simp only [Option.bind_some]
      congr 1
  · rw [if_neg hp, if_neg hp]
    exact ⟨_, rfl, rfl⟩
theorem FnExactPodLine (s : ByteArray) (b p : Int) (r : Bool) (hs : s.size ≤ maxLen) (_ : (Lit.int .i64 b).wf = true) (_ : (Lit.int .i64 p).wf = true) : ∃ k, laws_FnExactPodLine.f k s b p r = some true := by
  refine ⟨s.size + 21, ?_⟩
  obtain ⟨t, e1, e2⟩ := PodLine_eq s b p r hs (s.size + 21) (by omega)
  unfold laws_FnExactPodLine.f laws_szPod.f laws_toPod.f
  simp only [Option.bind_some, e1, e2]
  by_cases h : wrap64 (1048576 - (s.size : Int)) < 0 <;> simp [h]

end Go.Proofs.YtbbnlagdahickaaDoor.Pure
