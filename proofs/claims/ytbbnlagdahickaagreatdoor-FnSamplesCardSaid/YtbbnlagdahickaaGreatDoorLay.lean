/- What the walks of this seat take of the library's own variables ('Lay'), that it stays under growth, and three library contracts in the walks' own form. Conditions: those at each theorem. -/
import Derived.Test.YtbbnlagdahickaaGreatDoorShelf
import Derived.Test.YtbbnlagdahickaaGreatDoorKit
import Derived.Lib.SmallJoins
import Derived.Lib.AppendIntMem
namespace Go.Proofs.YtbbnlagdahickaaGreatDoor
open Go.RowKit Go.Proofs.YtbbnlagdahickaaGreatDoorW.PrintWords
/-- The table of powers of ten lies as the library's text lays it. -/
structure Lay (w : World) : Prop where
  tab : Lib.TabIs Tryz.prog w "internal/strconv.uint64pow10" .u64 Lib.pow10Tab
theorem Lay.up {w W : World} (h : Lay w) (hb : Below w.heap.size w W) : Lay W := by
  have ht := h.tab
  cases hg : Tryz.prog.globalNamed "internal/strconv.uint64pow10" with
  | none =>
    unfold Lib.TabIs World.var? at ht
    rw [hg] at ht
    simp at ht
  | some g => exact ⟨Go.Joins.tab_stays hg ht hb (Nat.le_refl _)⟩
theorem Lay.itoa (n : Int) (h0 : -9223372036854775808 ≤ n) (h1 : n ≤ 9223372036854775807) (w : World) (HT : Lay w) :
    Calls Tryz.prog 67 #[.int .i64 n] w fun e w' => e = .returned (.string (⟨(Lib.itoa n).toArray⟩ : ByteArray)) ∧ Below w.heap.size w w' := by
  refine (Tryz.strconv_Itoa n h0 h1 w HT.tab).mono ?_
  rintro e w' ⟨rfl, k, os, rfl⟩
  exact ⟨rfl, Lib.below_grow _ w (Nat.le_refl _) k os⟩
/-- strings.Join of a slice that is read. -/
theorem join_reads (A0 : Option Addr) (c0 : Nat) (l0 : List ByteArray) (a1 : ByteArray) (w : World)
    (hr : 0 < l0.length → ∃ ad, A0 = some ad ∧ ∀ j p, l0[j]? = some p → ∃ c, c.length = Kd.string.sz ∧ Kd.string.K w p c ∧ ∀ i u, c[i]? = some u → w.cell? (ad.add (j * Kd.string.sz + i)) = some u)
    (hc0 : l0.length ≤ c0) (h1 : l0.length ≤ 140737488355328) (h0 : (Lib.join (l0.map (·.data.toList)) a1.data.toList).length ≤ 140737488355328) :
    Calls Tryz.prog 66 #[.slice A0 l0.length c0, .string a1] w fun e w' => e = .returned (.string (⟨(Lib.join (l0.map (·.data.toList)) a1.data.toList).toArray⟩ : ByteArray)) ∧ Below w.heap.size w w' := by
  by_cases hl : 0 < l0.length
  · obtain ⟨ad, rfl, hc⟩ := hr hl
    have h00 : w.cell? ad = some (.string (l0[0])) := by
      obtain ⟨c, _, hK, hcc⟩ := hc 0 _ (List.getElem?_eq_getElem hl)
      obtain rfl : c = [.string (l0[0])] := hK
      simpa [Addr.add] using hcc 0 _ rfl
    obtain ⟨bk, o, sp⟩ := ad
    obtain rfl : sp = none := World.cell?_spot h00
    have hcell : ∀ (j : Nat) x, l0[j]? = some x → w.cell? ⟨bk, o + j, none⟩ = some (.string x) := by
      intro j x hx
      obtain ⟨c, _, hK, hcc⟩ := hc j x hx
      obtain rfl : c = [.string x] := hK
      have h := hcc 0 _ rfl
      have e : (⟨bk, o, none⟩ : Addr).add (j * Kd.string.sz + 0) = ⟨bk, o + j, none⟩ := by
        have hs : Kd.string.sz = 1 := rfl
        rw [hs, Nat.mul_one, Nat.add_zero]
        unfold Addr.add
        by_cases hj : j = 0 <;> simp [hj]
      rw [e] at h
      exact h
    have hb : bk < w.heap.size := World.block_lt_of_cell? w _ h00
    exact Tryz.strings_Join bk o c0 l0 a1 w hcell hb h1 hc0 h0
  · obtain rfl : l0 = [] := List.length_eq_zero_iff.1 (by omega)
    refine (Tryz.strings_Join_none A0 c0 a1 w).mono ?_
    rintro e w' ⟨rfl, rfl⟩
    exact ⟨rfl, Below.refl _ _⟩
end Go.Proofs.YtbbnlagdahickaaGreatDoor
