/- Plain lemmas on numbers, lists and names, for the pure halves of this seat's laws; no program in sight. Conditions: none. -/
import Derived.Test.YtbbnlagdahickaaGreatDoorKit
import Derived.Laws.Strings
namespace Go.Proofs.YtbbnlagdahickaaGreatDoor.Base
open Go.RowKit Go.Proofs.YtbbnlagdahickaaGreatDoorW.PrintWords
theorem wrap_in {x : Int} (h0 : -9223372036854775808 ≤ x) (h1 : x ≤ 9223372036854775807) : wrap64 x = x := by
  unfold wrap64
  omega
theorem wf_in {n : Int} (h : (Lit.int .i64 n).wf = true) : -9223372036854775808 ≤ n ∧ n ≤ 9223372036854775807 := by
  simp only [Lit.wf, Bool.and_eq_true, decide_eq_true_eq] at h
  exact ⟨Int.le_trans (by decide) h.1, Int.le_trans h.2 (by decide)⟩
theorem fill_step {α β : Type} (conv : α → β) (z : β) (dflt : α) (x0 : List α) (i : Nat) (h : i < x0.length) :
    ((x0.take i).map conv ++ List.replicate (x0.length - i) z).set i (conv (x0.getD i dflt)) = (x0.take (i + 1)).map conv ++ List.replicate (x0.length - (i + 1)) z := by
  have hl : ((x0.take i).map conv).length = i := by simp; omega
  rw [List.set_append_right _ _ (by omega), hl, Nat.sub_self]
  rw [show x0.length - i = (x0.length - (i + 1)) + 1 by omega, List.replicate_succ, List.set_cons_zero]
  rw [List.take_succ_eq_append_getElem h, List.map_append, List.append_assoc]
  simp [List.getD_eq_getElem?_getD, List.getElem?_eq_getElem h]
/-- a letter or a digit of a name -/
def chr (c : Int) : Bool := !((decide (c < 97) || decide (c > 122)) && (decide (c < 48) || decide (c > 57)))
def nameRest (s : ByteArray) : Nat → Int → Bool
  | 0, _ => true
  | d + 1, i => chr (bt s i) && nameRest s d (i + 1)
def nameB (s : ByteArray) : Bool := nameRest s s.size 0 && decide (1 ≤ (s.size : Int) ∧ (s.size : Int) ≤ 12)
def goalB (s : ByteArray) (t l : Int) : Bool := nameB s && decide (1 ≤ t ∧ t ≤ 1000000) && decide (0 ≤ l ∧ l ≤ 1000)
def podB (s : ByteArray) (b p : Int) : Bool := nameB s && decide (0 ≤ b ∧ b ≤ 1000000000) && decide (0 ≤ p ∧ p ≤ 2)
theorem less_step (x y : List UInt8) (i : Nat) (hx : i < x.length) (hy : i < y.length) : Op.bytesLess (x.drop i) (y.drop i) = (decide (x[i] < y[i]) || (x[i] == y[i] && Op.bytesLess (x.drop (i + 1)) (y.drop (i + 1)))) := by
  rw [List.drop_eq_getElem_cons hx, List.drop_eq_getElem_cons hy]
  rfl
theorem less_end (x y : List UInt8) (i : Nat) (hx : i ≤ x.length) (hy : i ≤ y.length) (h : i = x.length ∨ i = y.length) : Op.bytesLess (x.drop i) (y.drop i) = decide (x.length < y.length) := by
  by_cases h2 : i = y.length
  · subst h2
    rw [List.drop_length]
    cases x.drop y.length <;> simp [Op.bytesLess] <;> omega
  · have h1 : i = x.length := by omega
    subst h1
    rw [List.drop_length, List.drop_eq_getElem_cons (by omega)]
    simp [Op.bytesLess]
    omega
theorem bt_get (s : ByteArray) (i : Nat) (h : i < s.data.toList.length) : bt s (i : Int) = (s.data.toList[i].toNat : Int) := by
  have h' : i < s.size := by rw [data_length] at h; exact h
  unfold bt
  rw [dif_pos (show ((i : Int)).toNat < s.size from h')]
  rfl
theorem bound_of {α : Type} (f : α → Nat) (l : List α) : ∃ S, ∀ x ∈ l, f x ≤ S := by
  induction l with
  | nil => exact ⟨0, by simp⟩
  | cons a l ih =>
    obtain ⟨S, hS⟩ := ih
    refine ⟨max (f a) S, fun x hx => ?_⟩
    rcases List.mem_cons.1 hx with rfl | hx
    · exact Nat.le_max_left _ _
    · exact Nat.le_trans (hS x hx) (Nat.le_max_right _ _)
theorem getD_mem {α : Type} (l : List α) (z : α) (i : Nat) (h : i < l.length) : l.getD i z ∈ l := by
  rw [List.getD_eq_getElem?_getD, List.getElem?_eq_getElem h]
  exact List.getElem_mem h
end Go.Proofs.YtbbnlagdahickaaGreatDoor.Base
