/- Plain lemmas on numbers, lists and names, for the pure halves of this seat's laws; no program in sight. Conditions: none. -/
import Derived.Test.YteghfiladifjpaaWWords
namespace Go.Proofs.Yteghfiladifjpaa.Base
open Go.RowKit Go.Proofs.YteghfiladifjpaaW.PrintWords
theorem wrap_in {x : Int} (h0 : -9223372036854775808 ≤ x) (h1 : x ≤ 9223372036854775807) : wrap64 x = x := by
  unfold wrap64
  omega
theorem wf_in {n : Int} (h : (Lit.int .i64 n).wf = true) : -9223372036854775808 ≤ n ∧ n ≤ 9223372036854775807 := by
  simp only [Lit.wf, Bool.and_eq_true, decide_eq_true_eq] at h
  exact ⟨Int.le_trans (by decide) h.1, Int.le_trans h.2 (by decide)⟩
theorem fill_step {α β : Type} (conv : α → β) (z : β) (dflt : α) (x0 : List α) (i : Nat) (h : i < x0.length) :
    ((x0.take i).map conv ++ List.replicate (x0.length - i) z).set i (conv (x0.getD i dflt)) = (x0.take (i + 1)).map conv ++ List.replicate (x0.length - (i + 1)) z := by
  have hl : ((x0.take i).map conv).length = i := by simp; omega
  rw [List.set_append_right _ _ (by omega), hl, Nat.sub_self]
  rw [show x0.length - i = (x0.length - (i + 1)) + 1 by omega, List.replicate_succ, List.set_cons_zero]
  rw [List.take_succ_eq_append_getElem h, List.map_append, List.append_assoc]
  simp [List.getD_eq_getElem?_getD, List.getElem?_eq_getElem h]
/-- a letter or a digit of a name -/
def chr (c : Int) : Bool := !((decide (c < 97) || decide (c > 122)) && (decide (c < 48) || decide (c > 57)))
def nameRest (s : ByteArray) : Nat → Int → Bool
  | 0, _ => true
  | d + 1, i => chr (bt s i) && nameRest s d (i + 1)
def nameB (s : ByteArray) : Bool := nameRest s s.size 0 && decide (1 ≤ (s.size : Int) ∧ (s.size : Int) ≤ 12)
def goalB (s : ByteArray) (t l : Int) : Bool := nameB s && decide (1 ≤ t ∧ t ≤ 1000000) && decide (0 ≤ l ∧ l ≤ 1000)
def podB (s : ByteArray) (b p : Int) : Bool := nameB s && decide (0 ≤ b ∧ b ≤ 1000000000) && decide (0 ≤ p ∧ p ≤ 2)
end Go.Proofs.Yteghfiladifjpaa.Base
