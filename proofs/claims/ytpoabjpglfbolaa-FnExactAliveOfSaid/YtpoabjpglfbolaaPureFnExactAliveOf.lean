/- The pure half of FnExactAliveOf: the printed Lean functions of the program and of the reference agree, so the law's function answers true. Conditions: those of the statement, spelled at the theorem. -/
import Derived.Test.YtpoabjpglfbolaaOFnExactAliveOfx
import Derived.Test.YtpoabjpglfbolaaBase
namespace Go.Proofs.Ytpoabjpglfbolaa.Pure
open Go.RowKit Go.Proofs.Ytpoabjpglfbolaa.PFnExactAliveOf Go.Proofs.YtpoabjpglfbolaaW.PrintWords Go.Proofs.YtpoabjpglfbolaaW.PrintLast
set_option linter.unusedSimpArgs false
set_option linter.unusedVariables false

theorem spec_in_eq (a b c : Int) : spec_l01In.f a b c = some (decide (b ≤ a ∧ a ≤ c)) := by
  unfold spec_l01In.f
  by_cases h : b ≤ a <;> simp [h]
theorem impl_in_eq (a b c : Int) : impl_in.f a b c = some (decide (b ≤ a ∧ a ≤ c)) := by
  unfold impl_in.f
  by_cases h : b ≤ a <;> simp [h]

theorem spec_NameOk_l0 (s : ByteArray) (hs : s.size ≤ maxLen) (d : Nat) : ∀ (k : Nat) (i : Int), 0 ≤ i → (s.size : Int) - i = d → d < k → spec_NameOk.l0 k s i = some (Base.nameRest s d i) := by
  unfold maxLen at hs
  induction d with
  | zero =>
    intro k i h0 hd hk
    obtain ⟨k, rfl⟩ : ∃ m, k = m + 1 := ⟨k - 1, by omega⟩
    simp only [spec_NameOk.l0]
    rw [if_neg (by omega)]
    rfl
  | succ d ih =>
    intro k i h0 hd hk
    obtain ⟨k, rfl⟩ : ∃ m, k = m + 1 := ⟨k - 1, by omega⟩
    have hr := ih k (i + 1) (by omega) (by omega) (by omega)
    simp only [spec_NameOk.l0]
    rw [if_pos (by omega), if_pos h0, Base.wrap_in (by omega) (by omega), hr]
    simp only [Base.nameRest, Base.chr]
    by_cases h1 : bt s i < 97 <;> by_cases h2 : bt s i < 48 <;> by_cases h3 : bt s i > 57 <;> by_cases h4 : bt s i > 122 <;> simp [h1, h2, h3, h4]
theorem spec_NameOk_eq (s : ByteArray) (hs : s.size ≤ maxLen) (k : Nat) (hk : s.size < k) : spec_NameOk.f k s = some (Base.nameB s) := by
  unfold spec_NameOk.f Base.nameB
  rw [spec_in_eq, spec_NameOk_l0 s hs s.size k 0 (by omega) (by omega) hk]
  by_cases h : 1 ≤ (s.size : Int) ∧ (s.size : Int) ≤ 12 <;> simp [h]
theorem impl_NameOk_l0 (s : ByteArray) (hs : s.size ≤ maxLen) (d : Nat) : ∀ (k : Nat) (i : Int), 0 ≤ i → (s.size : Int) - i = d → d < k → impl_NameOk.l0 k s (s.size : Int) i = some (Base.nameRest s d i && decide (1 ≤ (s.size : Int) ∧ (s.size : Int) ≤ 12)) := by
  unfold maxLen at hs
  induction d with
  | zero =>
    intro k i h0 hd hk
    obtain ⟨k, rfl⟩ : ∃ m, k = m + 1 := ⟨k - 1, by omega⟩
    simp only [impl_NameOk.l0]
    rw [if_neg (by omega), impl_in_eq]
    simp [Base.nameRest]
  | succ d ih =>
    intro k i h0 hd hk
    obtain ⟨k, rfl⟩ : ∃ m, k = m + 1 := ⟨k - 1, by omega⟩
    have hr := ih k (i + 1) (by omega) (by omega) (by omega)
    simp only [impl_NameOk.l0]
    rw [if_pos (by omega), if_pos h0, if_pos (by omega), Base.wrap_in (by omega) (by omega), hr]
    simp only [Base.nameRest, Base.chr]
    by_cases h1 : bt s i < 97 <;> by_cases h2 : bt s i < 48 <;> by_cases h3 : bt s i > 57 <;> by_cases h4 : bt s i > 122 <;> simp [h1, h2, h3, h4]
theorem impl_NameOk_eq (s : ByteArray) (hs : s.size ≤ maxLen) (k : Nat) (hk : s.size < k) : impl_NameOk.f k s = some (Base.nameB s) := by
  unfold impl_NameOk.f Base.nameB
  exact impl_NameOk_l0 s hs s.size k 0 (by omega) (by omega) hk

theorem spec_tick_eq (a : Int) : spec_l02Tick.f a = some (decide (0 ≤ a ∧ a ≤ 1000000000)) := by
  unfold spec_l02Tick.f
  simp only [spec_in_eq, Option.bind_some]
theorem impl_tick_eq (a : Int) : impl_isTick.f a = some (decide (0 ≤ a ∧ a ≤ 1000000000)) := by
  unfold impl_isTick.f
  simp only [impl_in_eq, Option.bind_some]

theorem spec_PodOk_eq (s : ByteArray) (b p : Int) (r : Bool) (hs : s.size ≤ maxLen) (k : Nat) (hk : s.size < k) : spec_PodOk.f k s b p r = some (Base.podB s b p) := by
  unfold spec_PodOk.f Base.podB
  rw [spec_NameOk_eq s hs k hk, spec_tick_eq, spec_in_eq]
  by_cases h1 : Base.nameB s = true <;> by_cases h2 : 0 ≤ b ∧ b ≤ 1000000000 <;> simp [h1, h2]
theorem impl_PodOk_eq (s : ByteArray) (b p : Int) (r : Bool) (hs : s.size ≤ maxLen) (k : Nat) (hk : s.size < k) : impl_PodOk.f k s b p r = some (Base.podB s b p) := by
  unfold impl_PodOk.f Base.podB
  rw [impl_NameOk_eq s hs k hk, impl_tick_eq, impl_in_eq]
  by_cases h1 : Base.nameB s = true <;> by_cases h2 : 0 ≤ b ∧ b ≤ 1000000000 <;> simp [h1, h2]

theorem spec_Less_l0 (a b : ByteArray) (ha : a.size ≤ maxLen) (d : Nat) : ∀ (k i : Nat), i + d = a.size → i ≤ b.size → 2 * d + 2 < k → spec_l02Less.l0 k a b (i : Int) = some (Op.bytesLess (a.data.toList.drop i) (b.data.toList.drop i)) := by
  unfold maxLen at ha
  have la := data_length a
  have lb := data_length b
  induction d with
  | zero =>
    intro k i hd hb hk
    obtain ⟨k, rfl⟩ : ∃ m, k = m + 1 := ⟨k - 1, by omega⟩
    obtain ⟨k, rfl⟩ : ∃ m, k = m + 1 := ⟨k - 1, by omega⟩
    simp only [spec_l02Less.l0]
    rw [if_neg (by omega)]
    simp only [spec_l02Less.j1]
    rw [Base.less_end _ _ i (by omega) (by omega) (by omega), la, lb]
    simp
  | succ d ih =>
    intro k i hd hb hk
    obtain ⟨k, rfl⟩ : ∃ m, k = m + 1 := ⟨k - 1, by omega⟩
    obtain ⟨k, rfl⟩ : ∃ m, k = m + 1 := ⟨k - 1, by omega⟩
    simp only [spec_l02Less.l0]
    rw [if_pos (by omega)]
    by_cases h : i < b.size
    · have hr := ih k (i + 1) (by omega) (by omega) (by omega)
      simp only [spec_l02Less.j1]
      rw [show decide ((i : Int) < (b.size : Int)) = true from decide_eq_true (by omega), if_pos rfl, if_pos (by omega), if_pos (by omega), if_pos (by omega), Base.wrap_in (by omega) (by omega), show ((i : Int) + 1) = ((i + 1 : Nat) : Int) by omega, hr]
      rw [Base.less_step _ _ i (by omega) (by omega), Base.bt_get a i (by omega), Base.bt_get b i (by omega)]
      generalize a.data.toList[i]'(by omega) = p
      generalize b.data.toList[i]'(by omega) = q
      by_cases e : p = q
      · subst e
        simp [UInt8.lt_iff_toNat_lt]
      · have e' : ¬ ((p.toNat : Int) = (q.toNat : Int)) := fun hh => e (UInt8.toNat_inj.1 (by omega))
        rw [if_neg e']
        simp [e, UInt8.lt_iff_toNat_lt]
    · simp only [spec_l02Less.j1]
      rw [show decide ((i : Int) < (b.size : Int)) = false from decide_eq_false (by omega)]
      rw [Base.less_end _ _ i (by omega) (by omega) (by omega), la, lb]
      simp
theorem spec_Less_eq (a b : ByteArray) (ha : a.size ≤ maxLen) (k : Nat) (hk : 2 * a.size + 2 < k) : spec_l02Less.f k a b = some (Op.bytesLess a.toList b.toList) := by
  unfold spec_l02Less.f
  rw [ByteArray.toList_eq, ByteArray.toList_eq]
  exact spec_Less_l0 a b ha a.size k 0 (by omega) (by omega) hk

theorem toPodS_l0 (x0 : List S52) (hn : x0.length ≤ 1048576) (d : Nat) : ∀ (k i : Nat), i + d = x0.length → d < k →
    laws_toPodS.l0 k x0 ((x0.take i).map (fun x : S52 => (⟨x.f0, x.f1, x.f2, x.f3⟩ : S54)) ++ List.replicate (x0.length - i) z54) (i : Int) = some (x0.map (fun x : S52 => (⟨x.f0, x.f1, x.f2, x.f3⟩ : S54))) := by
  induction d with
  | zero =>
    intro k i hd hk
    obtain ⟨k, rfl⟩ : ∃ m, k = m + 1 := ⟨k - 1, by omega⟩
    obtain rfl : i = x0.length := by omega
    simp only [laws_toPodS.l0]
    rw [if_neg (by omega)]
    simp
  | succ d ih =>
    intro k i hd hk
    obtain ⟨k, rfl⟩ : ∃ m, k = m + 1 := ⟨k - 1, by omega⟩
    have hr := ih k (i + 1) (by omega) (by omega)
    have e : ((x0.take i).map (fun x : S52 => (⟨x.f0, x.f1, x.f2, x.f3⟩ : S54)) ++ List.replicate (x0.length - i) z54).set (i : Int).toNat (⟨(rd_T52 x0 (i : Int)).f0, (rd_T52 x0 (i : Int)).f1, (rd_T52 x0 (i : Int)).f2, (rd_T52 x0 (i : Int)).f3⟩ : S54) = (x0.take (i + 1)).map (fun x : S52 => (⟨x.f0, x.f1, x.f2, x.f3⟩ : S54)) ++ List.replicate (x0.length - (i + 1)) z54 :=
      Base.fill_step (fun x : S52 => (⟨x.f0, x.f1, x.f2, x.f3⟩ : S54)) z54 z52 x0 i (by omega)
    simp only [laws_toPodS.l0, laws_toPod.f, Option.bind_some]
    rw [if_pos (by omega), if_pos (by omega), if_pos (by simp; omega), Base.wrap_in (by omega) (by omega), e, show ((i : Int) + 1) = ((i + 1 : Nat) : Int) by omega]
    exact hr
theorem toPodS_eq (x0 : List S52) (hn : x0.length ≤ 1048576) (k : Nat) (hk : x0.length < k) : laws_toPodS.f k x0 = some (x0.map (fun x : S52 => (⟨x.f0, x.f1, x.f2, x.f3⟩ : S54))) := by
  unfold laws_toPodS.f
  rw [if_pos (by omega), if_pos (by omega)]
  have h := toPodS_l0 x0 hn x0.length k 0 (by omega) hk
  simpa using h
theorem eqPodS_l0 (x : List S54) (hn : x.length ≤ 1048576) (d : Nat) : ∀ (k i : Nat), i + d = x.length → d < k → laws_eqPodS.l0 k x x (i : Int) = some true := by
  induction d with
  | zero =>
    intro k i hd hk
    obtain ⟨k, rfl⟩ : ∃ m, k = m + 1 := ⟨k - 1, by omega⟩
    simp only [laws_eqPodS.l0]
    rw [if_neg (by omega)]
  | succ d ih =>
    intro k i hd hk
    obtain ⟨k, rfl⟩ : ∃ m, k = m + 1 := ⟨k - 1, by omega⟩
    have hr := ih k (i + 1) (by omega) (by omega)
    simp only [laws_eqPodS.l0, laws_eqPod.f]
    rw [if_pos (by omega), if_pos (by omega), if_pos (by omega), Base.wrap_in (by omega) (by omega), show ((i : Int) + 1) = ((i + 1 : Nat) : Int) by omega]
    simpa using hr
theorem eqPodS_eq (x : List S54) (hn : x.length ≤ 1048576) (k : Nat) (hk : x.length < k) : laws_eqPodS.f k x x = some true := by
  unfold laws_eqPodS.f
  rw [if_pos rfl]
  exact eqPodS_l0 x hn x.length k 0 (by omega) hk
theorem PodsOk_l0 (x : List S54) (hn : x.length ≤ 1048576) (S : Nat) (hS : ∀ p ∈ x, p.f0.size ≤ S) (hM : ∀ p ∈ x, p.f0.size ≤ maxLen) (d : Nat) : ∀ (k i : Nat), i + d = x.length → d + 2 * S + 4 < k →
    ∃ r, spec_PodsOk.l0 k x (i : Int) = some r ∧ impl_PodsOk.l0 k x x (x.length : Int) (i : Int) = some (r && decide ((x.length : Int) ≤ 12)) := by
  induction d with
  | zero =>
    intro k i hd hk
    obtain ⟨k, rfl⟩ : ∃ m, k = m + 1 := ⟨k - 1, by omega⟩
    simp only [spec_PodsOk.l0, impl_PodsOk.l0]
    rw [if_neg (by omega), if_neg (by omega)]
    exact ⟨true, rfl, by simp⟩
  | succ d ih =>
    intro k i hd hk
    obtain ⟨k, rfl⟩ : ∃ m, k = m + 1 := ⟨k - 1, by omega⟩
    obtain ⟨r, e1, e2⟩ := ih k (i + 1) (by omega) (by omega)
    have hmem : rd_T54 x (i : Int) ∈ x := Base.getD_mem x z54 i (by omega)
    have m1 := hS _ hmem
    have m2 := hM _ hmem
    have p1 := spec_PodOk_eq (rd_T54 x (i : Int)).f0 (rd_T54 x (i : Int)).f1 (rd_T54 x (i : Int)).f2 (rd_T54 x (i : Int)).f3 m2 k (by omega)
    have p2 := impl_PodOk_eq (rd_T54 x (i : Int)).f0 (rd_T54 x (i : Int)).f1 (rd_T54 x (i : Int)).f2 (rd_T54 x (i : Int)).f3 m2 k (by omega)
    simp only [spec_PodsOk.l0, impl_PodsOk.l0]
    rw [if_pos (show (i : Int) < (x.length : Int) by omega), if_pos (show (0 : Int) ≤ (i : Int) by omega), Base.wrap_in (x := (i : Int) + 1) (by omega) (by omega), show ((i : Int) + 1) = ((i + 1 : Nat) : Int) by omega, e1, e2, p1, p2]
    simp only [Option.bind_some, if_pos (show (i : Int) < (x.length : Int) by omega), if_pos (show (0 : Int) ≤ (i : Int) by omega)]
    by_cases h1 : Base.podB (rd_T54 x (i : Int)).f0 (rd_T54 x (i : Int)).f1 (rd_T54 x (i : Int)).f2 = true
    · by_cases h3 : (i : Int) > 0
      · have hmem' : rd_T54 x ((i : Int) - 1) ∈ x := by
          have h := Base.getD_mem x z54 (i - 1) (by omega)
          have e : ((i : Int) - 1).toNat = i - 1 := by omega
          show x.getD ((i : Int) - 1).toNat z54 ∈ x
          rw [e]
          exact h
        have n1 := hS _ hmem'
        have n2 := hM _ hmem'
        have q1 := spec_Less_eq (rd_T54 x ((i : Int) - 1)).f0 (rd_T54 x (i : Int)).f0 n2 k (by omega)
        rw [Base.wrap_in (x := (i : Int) - 1) (by omega) (by omega), q1]
        simp only [h1, if_true, if_pos h3, if_pos (show (0 : Int) ≤ (i : Int) - 1 by omega), if_pos (show (i : Int) - 1 < (x.length : Int) by omega), Option.bind_some]
        by_cases h4 : Op.bytesLess (rd_T54 x ((i : Int) - 1)).f0.toList (rd_T54 x (i : Int)).f0.toList = true
        · exact ⟨r, by rw [if_pos h4], by rw [if_pos h4]⟩
        · exact ⟨false, by rw [if_neg h4], by rw [if_neg h4]; simp⟩
      · simp only [h1, if_true, if_neg h3]
        exact ⟨r, rfl, rfl⟩
    · simp only [if_neg h1]
      exact ⟨false, rfl, by simp⟩
theorem PodsOk_eq (x : List S54) (hn : x.length ≤ 1048576) (S : Nat) (hS : ∀ p ∈ x, p.f0.size ≤ S) (hM : ∀ p ∈ x, p.f0.size ≤ maxLen) (k : Nat) (hk : x.length + 2 * S + 4 < k) : ∃ r, spec_PodsOk.f k x = some r ∧ impl_PodsOk.f k x = some r := by
  obtain ⟨r, e1, e2⟩ := PodsOk_l0 x hn S hS hM x.length k 0 (by omega) hk
  unfold spec_PodsOk.f impl_PodsOk.f
  refine ⟨_, ?_, e2⟩
  by_cases h : (x.length : Int) > 12
  · rw [if_pos h]
    simp [show ¬ (x.length : Int) ≤ 12 by omega]
  · rw [if_neg h]
    simpa [show (x.length : Int) ≤ 12 by omega] using e1
theorem szPodS_l0 (x : List S52) (hn : x.length ≤ 1048576) (d : Nat) : ∀ (k i : Nat) (v : Int), i + d = x.length → d < k → ∃ r, laws_szPodS.l0 k x v (i : Int) = some r := by
  induction d with
  | zero =>
    intro k i v hd hk
    obtain ⟨k, rfl⟩ : ∃ m, k = m + 1 := ⟨k - 1, by omega⟩
    simp only [laws_szPodS.l0]
    rw [if_neg (by omega)]
    exact ⟨_, rfl⟩
  | succ d ih =>
    intro k i v hd hk
    obtain ⟨k, rfl⟩ : ∃ m, k = m + 1 := ⟨k - 1, by omega⟩
    simp only [laws_szPodS.l0]
    rw [if_pos (by omega), if_pos (by omega), Base.wrap_in (x := (i : Int) + 1) (by omega) (by omega), show ((i : Int) + 1) = ((i + 1 : Nat) : Int) by omega]
    obtain ⟨q, hq⟩ : ∃ q, laws_szPod.f (rd_T52 x (i : Int)).f0 (rd_T52 x (i : Int)).f1 (rd_T52 x (i : Int)).f2 (rd_T52 x (i : Int)).f3 v = some q := by
      unfold laws_szPod.f
      split <;> exact ⟨_, rfl⟩
    rw [hq]
    simp only [Option.bind_some]
    by_cases h : q < 0
    · rw [if_pos h]
      exact ⟨_, rfl⟩
    · rw [if_neg h]
      exact ih k (i + 1) q (by omega) (by omega)
theorem szPodS_eq (x : List S52) (hx : x.length ≤ 9223372036854775807) (k : Nat) (hk : x.length < k) : ∃ r, laws_szPodS.f k x 1048576 = some r ∧ (¬ r < 0 → x.length ≤ 1048576) := by
  unfold laws_szPodS.f
  rw [Base.wrap_in (x := 1048576 - (x.length : Int)) (by omega) (by omega)]
  by_cases h : 1048576 - (x.length : Int) < 0
  · exact ⟨-1, by rw [if_pos h], fun h2 => absurd (by omega : (-1 : Int) < 0) h2⟩
  · rw [if_neg h]
    obtain ⟨r, hr⟩ := szPodS_l0 x (by omega) x.length k 0 (1048576 - (x.length : Int)) (by omega) hk
    exact ⟨r, hr, fun _ => by omega⟩

theorem alive_l0 (x : List S54) (hn : x.length ≤ 1048576) (d : Nat) : ∀ (k i : Nat) (n : Int), i + d = x.length → d < k → 0 ≤ n → n ≤ i →
    ∃ r, spec_AliveOf.l0 k x n (i : Int) = some r ∧ impl_AliveOf.l0 k n x (x.length : Int) (i : Int) = some r := by
  induction d with
  | zero =>
    intro k i n hd hk h0 h1
    obtain ⟨k, rfl⟩ : ∃ m, k = m + 1 := ⟨k - 1, by omega⟩
    refine ⟨n, ?_, ?_⟩
    · simp only [spec_AliveOf.l0]
      rw [if_neg (by omega)]
    · simp only [impl_AliveOf.l0]
      rw [if_neg (by omega)]
  | succ d ih =>
    intro k i n hd hk h0 h1
    obtain ⟨k, rfl⟩ : ∃ m, k = m + 1 := ⟨k - 1, by omega⟩
    by_cases h : (rd_T54 x (i : Int)).f2 = 0
    · obtain ⟨r, e1, e2⟩ := ih k (i + 1) (n + 1) (by omega) (by omega) (by omega) (by omega)
      refine ⟨r, ?_, ?_⟩
      · simp only [spec_AliveOf.l0]
        rw [if_pos (by omega), if_pos (by omega), if_pos h, Base.wrap_in (x := (i : Int) + 1) (by omega) (by omega), Base.wrap_in (x := n + 1) (by omega) (by omega), show ((i : Int) + 1) = ((i + 1 : Nat) : Int) by omega]
        exact e1
      · simp only [impl_AliveOf.l0]
        rw [if_pos (by omega), if_pos (by omega), if_pos (by omega), if_pos h, Base.wrap_in (x := (i : Int) + 1) (by omega) (by omega), Base.wrap_in (x := n + 1) (by omega) (by omega), show ((i : Int) + 1) = ((i + 1 : Nat) : Int) by omega]
        exact e2
    · obtain ⟨r, e1, e2⟩ := ih k (i + 1) n (by omega) (by omega) (by omega) (by omega)
      refine ⟨r, ?_, ?_⟩
      · simp only [spec_AliveOf.l0]
        rw [if_pos (by omega), if_pos (by omega), if_neg h, Base.wrap_in (x := (i : Int) + 1) (by omega) (by omega), show ((i : Int) + 1) = ((i + 1 : Nat) : Int) by omega]
        exact e1
      · simp only [impl_AliveOf.l0]
        rw [if_pos (by omega), if_pos (by omega), if_pos (by omega), if_neg h, Base.wrap_in (x := (i : Int) + 1) (by omega) (by omega), show ((i : Int) + 1) = ((i + 1 : Nat) : Int) by omega]
        exact e2
theorem AliveOf_eq (x : List S54) (hn : x.length ≤ 1048576) (S : Nat) (hS : ∀ p ∈ x, p.f0.size ≤ S) (hM : ∀ p ∈ x, p.f0.size ≤ maxLen) (k : Nat) (hk : x.length + 2 * S + 4 < k) : ∃ r, spec_AliveOf.f k x = some r ∧ impl_AliveOf.f k x = some r := by
  obtain ⟨q, p1, p2⟩ := PodsOk_eq x hn S hS hM k hk
  obtain ⟨r, e1, e2⟩ := alive_l0 x hn x.length k 0 0 (by omega) (by omega) (by omega) (by omega)
  unfold spec_AliveOf.f impl_AliveOf.f
  rw [p1, p2]
  simp only [Option.bind_some]
  cases q
  · exact ⟨-1, rfl, rfl⟩
  · exact ⟨r, e1, e2⟩
theorem FnExactAliveOf (l : List S52) (hl : l.length ≤ maxLen) (hw : ∀ x ∈ l, x.f0.size ≤ maxLen ∧ (Lit.int .i64 x.f1).wf = true ∧ (Lit.int .i64 x.f2).wf = true) : ∃ k, laws_FnExactAliveOf.f k l = some true := by
  unfold maxLen at hl
  obtain ⟨S, hS⟩ := Base.bound_of (fun x : S52 => x.f0.size) l
  refine ⟨l.length + 2 * S + 5, ?_⟩
  unfold laws_FnExactAliveOf.f
  obtain ⟨r, hr, hlen⟩ := szPodS_eq l hl (l.length + 2 * S + 5) (by omega)
  rw [hr]
  simp only [Option.bind_some]
  by_cases h : r < 0
  · rw [if_pos h]
  · rw [if_neg h]
    have hlen := hlen h
    have ht := toPodS_eq l hlen (l.length + 2 * S + 5) (by omega)
    generalize hm : l.map (fun x : S52 => (⟨x.f0, x.f1, x.f2, x.f3⟩ : S54)) = m at ht
    have hml : m.length = l.length := by rw [← hm]; simp
    have hSm : ∀ p ∈ m, p.f0.size ≤ S := by
      rw [← hm]
      intro p hp
      obtain ⟨q, hq, rfl⟩ := List.mem_map.1 hp
      exact hS q hq
    have hMm : ∀ p ∈ m, p.f0.size ≤ maxLen := by
      rw [← hm]
      intro p hp
      obtain ⟨q, hq, rfl⟩ := List.mem_map.1 hp
      exact (hw q hq).1
    obtain ⟨r, e1, e2⟩ := AliveOf_eq m (by omega) S hSm hMm (l.length + 2 * S + 5) (by omega)
    have e3 := eqPodS_eq m (by omega) (l.length + 2 * S + 5) (by omega)
    simp [ht, e1, e2, e3]

end Go.Proofs.Ytpoabjpglfbolaa.Pure
