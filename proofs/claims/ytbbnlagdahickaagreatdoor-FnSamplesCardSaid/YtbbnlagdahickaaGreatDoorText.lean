/- Plain lemmas on lines and numerals, with no program in sight: a line cut at a byte, what the library's cut answers, numerals read again. Conditions: those at each theorem. -/
import Derived.Lib.SplitLaws
import Derived.Lib.AtoiAll
import Derived.Lib.ItoaNum
import Derived.Deep.Slices
import Derived.Lib.SmallJoins
import Derived.Laws.Strings
namespace Go.Proofs.YtbbnlagdahickaaGreatDoor.Text
/-- A line cut at each c. -/
def cutL (c : UInt8) : List UInt8 → List UInt8 → List (List UInt8)
  | acc, [] => [acc]
  | acc, x :: r => if x = c then acc :: cutL c [] r else cutL c (acc ++ [x]) r
theorem cutL_index (c : UInt8) : ∀ (l acc : List UInt8), cutL c acc l = if Lib.index l [c] = -1 then [acc ++ l] else (acc ++ l.take (Lib.index l [c]).toNat) :: cutL c [] (l.drop ((Lib.index l [c]).toNat + 1))
  | [], acc => by simp [cutL, Lib.index]
  | b :: l, acc => by
    by_cases h : b = c
    · subst h
      have e : Lib.index (b :: l) [b] = 0 := by rw [Lib.index]; simp [List.isPrefixOf]
      rw [e]
      simp [cutL]
    · have hp : ([c] : List UInt8).isPrefixOf (b :: l) = false := by simp [List.isPrefixOf, Ne.symm h]
      have hix : Lib.index (b :: l) [c] = if Lib.index l [c] == -1 then -1 else Lib.index l [c] + 1 := by rw [Lib.index, hp]; simp
      rw [cutL, if_neg h, cutL_index c l (acc ++ [b]), hix]
      have hge := Lib.index_ge l [c]
      by_cases hm : Lib.index l [c] = -1
      · simp [hm]
      · rw [if_neg hm, if_neg (show ¬ ((Lib.index l [c] == -1) = true) from fun e => hm (beq_iff_eq.1 e)), if_neg (by omega)]
        have e : (Lib.index l [c] + 1).toNat = (Lib.index l [c]).toNat + 1 := by omega
        rw [e]
        simp
theorem splitK_cut (c : UInt8) : ∀ (k : Nat) (s : List UInt8), Lib.count s [c] = k → Lib.splitK [c] 0 k s = cutL c [] s
  | 0, s, hk => by
    rw [cutL_index]
    by_cases hm : Lib.index s [c] = -1
    · rw [if_pos hm]
      rfl
    · have hge := Lib.index_ge s [c]
      have := Lib.count_hit (s := s) (sub := [c]) (i := (Lib.index s [c]).toNat) (by simp) (by omega)
      omega
  | k + 1, s, hk => by
    rw [cutL_index]
    by_cases hm : Lib.index s [c] = -1
    · rw [Lib.count_miss hm] at hk
      omega
    · have hge := Lib.index_ge s [c]
      have hc := Lib.count_hit (s := s) (sub := [c]) (i := (Lib.index s [c]).toNat) (by simp) (by omega)
      rw [if_neg hm, Lib.splitK, if_neg (show ¬ ((Lib.index s [c] == -1) = true) from fun e => hm (beq_iff_eq.1 e)), splitK_cut c k _ (by omega)]
      rfl
theorem cutL_last (c : UInt8) : ∀ (p acc : List UInt8), c ∉ p → cutL c acc p = [acc ++ p]
  | [], acc, _ => by simp [cutL]
  | x :: p, acc, h => by
    rw [cutL, if_neg (show ¬ x = c by rintro rfl; exact h List.mem_cons_self), cutL_last c p _ (fun hm => h (List.mem_cons_of_mem _ hm))]
    simp
theorem cutL_step (c : UInt8) (r : List UInt8) : ∀ (p acc : List UInt8), c ∉ p → cutL c acc (p ++ c :: r) = (acc ++ p) :: cutL c [] r
  | [], acc, _ => by simp [cutL]
  | x :: p, acc, h => by
    rw [List.cons_append, cutL, if_neg (show ¬ x = c by rintro rfl; exact h List.mem_cons_self), cutL_step c r p _ (fun hm => h (List.mem_cons_of_mem _ hm))]
    simp
theorem cutL_len (c : UInt8) : ∀ (l acc : List UInt8), ∀ x ∈ cutL c acc l, x.length ≤ acc.length + l.length
  | [], acc, x, hx => by
    simp only [cutL, List.mem_singleton] at hx
    subst hx
    simp
  | b :: l, acc, x, hx => by
    rw [cutL] at hx
    by_cases h : b = c
    · rw [if_pos h] at hx
      rcases List.mem_cons.1 hx with rfl | hx
      · simp
      · have := cutL_len c l [] x hx
        simp at this ⊢
        omega
    · rw [if_neg h] at hx
      have := cutL_len c l _ x hx
      simp at this ⊢
      omega
theorem cutL_ne (c : UInt8) : ∀ (l acc : List UInt8), 1 ≤ (cutL c acc l).length
  | [], acc => by simp [cutL]
  | b :: l, acc => by
    rw [cutL]
    by_cases h : b = c
    · rw [if_pos h]
      simp
    · rw [if_neg h]
      exact cutL_ne c l _
/-- The bytes of a list. -/
def ofL (l : List UInt8) : ByteArray := ⟨l.toArray⟩
theorem ofL_data (l : List UInt8) : (ofL l).data.toList = l := rfl
theorem ofL_size (l : List UInt8) : (ofL l).size = l.length := rfl
theorem data_ofL (s : ByteArray) : ofL s.data.toList = s := rfl
/-- What strings.Split answers at one byte. -/
theorem splitB_cut (s : ByteArray) (c : UInt8) : Lib.splitB ⟨#[c]⟩ 0 (Lib.countB s ⟨#[c]⟩) s = (cutL c [] s.data.toList).map ofL := by
  have h := Lib.splitB_data ⟨#[c]⟩ 0 (Lib.countB s ⟨#[c]⟩) s
  have h2 := splitK_cut c (Lib.countB s ⟨#[c]⟩) s.data.toList rfl
  have h3 : (Lib.splitB ⟨#[c]⟩ 0 (Lib.countB s ⟨#[c]⟩) s).map (·.data.toList) = cutL c [] s.data.toList := h.trans h2
  rw [← h3, List.map_map]
  exact (List.map_id _).symm
/-- The number that digits spell. -/
def val (a : Nat) (l : List UInt8) : Nat := l.foldl (fun a c => a * 10 + (c.toNat - 48)) a
theorem val_le : ∀ (l : List UInt8) (a : Nat), a ≤ val a l
  | [], a => Nat.le_refl _
  | c :: l, a => by
    have := val_le l (a * 10 + (c.toNat - 48))
    simp only [val, List.foldl_cons] at this ⊢
    omega
theorem val_lt : ∀ (l : List UInt8) (a e : Nat), a < 10 ^ e → (∀ c ∈ l, 48 ≤ c.toNat ∧ c.toNat ≤ 57) → val a l < 10 ^ (e + l.length)
  | [], a, e, h, _ => h
  | c :: l, a, e, h, hd => by
    have h1 := hd c List.mem_cons_self
    have := val_lt l (a * 10 + (c.toNat - 48)) (e + 1) (by rw [Nat.pow_succ]; omega) (fun x hx => hd x (List.mem_cons_of_mem _ hx))
    simp only [val, List.foldl_cons, List.length_cons] at this ⊢
    rw [show e + (l.length + 1) = e + 1 + l.length by omega]
    exact this
theorem digits_mem (u : Nat) : ∀ c ∈ Lib.decDigits u, 48 ≤ c.toNat ∧ c.toNat ≤ 57 := by
  induction u using Nat.strongRecOn with
  | ind u ih =>
    intro c hc
    have hb : ∀ v : Nat, v < 10 → 48 ≤ (UInt8.ofNat (48 + v)).toNat ∧ (UInt8.ofNat (48 + v)).toNat ≤ 57 := by
      intro v hv
      rw [UInt8.toNat_ofNat']
      omega
    rw [Lib.decDigits] at hc
    by_cases h : u < 10
    · rw [dif_pos h, List.mem_singleton] at hc
      subst hc
      exact hb u h
    · rw [dif_neg h] at hc
      rcases List.mem_append.1 hc with hc | hc
      · exact ih (u / 10) (by omega) c hc
      · rw [List.mem_singleton] at hc
        subst hc
        exact hb (u % 10) (by omega)
theorem digits_val (u : Nat) : val 0 (Lib.decDigits u) = u := by
  induction u using Nat.strongRecOn with
  | ind u ih =>
    have hb : ∀ v : Nat, v < 10 → (UInt8.ofNat (48 + v)).toNat = 48 + v := by
      intro v hv
      rw [UInt8.toNat_ofNat']
      omega
    rw [Lib.decDigits]
    by_cases h : u < 10
    · rw [dif_pos h]
      simp only [val, List.foldl_cons, List.foldl_nil]
      rw [hb u h]
      omega
    · rw [dif_neg h]
      have h1 := ih (u / 10) (by omega)
      simp only [val, List.foldl_append, List.foldl_cons, List.foldl_nil] at h1 ⊢
      rw [h1, hb _ (by omega)]
      omega
theorem digits_ne (u : Nat) : Lib.decDigits u ≠ [] := by
  rw [Lib.decDigits]
  by_cases h : u < 10 <;> simp [h]
theorem parse_ok : ∀ (l : List UInt8) (a : Nat), (∀ c ∈ l, 48 ≤ c.toNat ∧ c.toNat ≤ 57) → val a l < 1000000000000000000 → Lib.parseUint10 a l = .ok (val a l)
  | [], a, _, _ => rfl
  | c :: l, a, hd, hv => by
    have h1 := hd c List.mem_cons_self
    have hv' : val (a * 10 + (c.toNat - 48)) l < 1000000000000000000 := hv
    have hle := val_le l (a * 10 + (c.toNat - 48))
    rw [Lib.parseUint10, if_pos h1, if_neg (by omega), if_neg (by omega), parse_ok l _ (fun x hx => hd x (List.mem_cons_of_mem _ hx)) hv']
    rfl
theorem atoi_digits (u : Nat) (h : u < 1000000000000000000) : Lib.atoiAll (Lib.decDigits u) = .ok (u : Int) := by
  have hm := digits_mem u
  have hv := digits_val u
  have hn := digits_ne u
  have hp := parse_ok (Lib.decDigits u) 0 hm (by rw [hv]; exact h)
  rw [hv] at hp
  generalize hl : Lib.decDigits u = l at *
  cases l with
  | nil => exact absurd rfl hn
  | cons c r =>
    have h1 := hm c List.mem_cons_self
    unfold Lib.atoiAll
    simp only []
    rw [if_neg (by omega)]
    unfold Lib.parseMag
    rw [if_neg (by simp), hp]
    simp only []
    rw [if_neg (by omega), if_neg (by omega), if_neg (by omega)]
theorem atoi_itoa (b : Int) (h0 : 0 ≤ b) (h1 : b < 1000000000000000000) : Lib.atoiAll (Lib.itoa b) = .ok b := by
  unfold Lib.itoa
  rw [if_neg (by omega), atoi_digits _ (by omega)]
  congr 1
  omega
end Go.Proofs.YtbbnlagdahickaaGreatDoor.Text
