/- The pure half of FnSamples: the Lean function of the law answers true for every code. Conditions: those at each theorem. -/
import Derived.Test.YtbbnlagdahickaaGreatDoorPureB
import Derived.Test.YtbbnlagdahickaaGreatDoorPureC
import Derived.Test.YtbbnlagdahickaaGreatDoorPureD
import Derived.Test.YtbbnlagdahickaaGreatDoorOFnSamplesx
import Derived.Test.YtbbnlagdahickaaGreatDoorBase
import Derived.Test.YtbbnlagdahickaaGreatDoorText
namespace Go.Proofs.YtbbnlagdahickaaGreatDoor.Pure
open Go.RowKit Go.Proofs.YtbbnlagdahickaaGreatDoor Go.Proofs.YtbbnlagdahickaaGreatDoor.PFnSamples Go.Proofs.YtbbnlagdahickaaGreatDoorW.PrintWords Go.Proofs.YtbbnlagdahickaaGreatDoorW.PrintLast
set_option linter.unusedSimpArgs false
set_option linter.unusedVariables false


open Go.Sort Go.Proofs.YtbbnlagdahickaaGreatDoor.Stable
def okX (x : S35) : Bool := okF x.f0 x.f1 x.f2 x.f3
def lineX (x : S35) : List UInt8 := lineF x.f0 x.f1 x.f2 x.f3
/-- The text of a list of samples. -/
def printedL : List S35 → List UInt8
  | [] => []
  | x :: l => lineX x ++ 10 :: printedL l
theorem max100 {n : Nat} (h : n ≤ 100) : n ≤ maxLen := by unfold maxLen; omega
theorem spec_print_l0 (l : List S35) (hl : l.length ≤ 100) (hs : Small l) (d : Nat) : ∀ (k i : Nat) (acc : ByteArray), i + d = l.length → acc.size ≤ 100 * i → d + 300 < k →
    spec_PrintScrape.l0 k l acc (i : Int) = some (if (l.drop i).all okX = true then (Text.ofL (acc.data.toList ++ printedL (l.drop i)), true) else ((⟨#[]⟩ : ByteArray), false)) := by
  induction d with
  | zero =>
    intro k i acc h1 h2 hk
    obtain ⟨k, rfl⟩ : ∃ m, k = m + 1 := ⟨k - 1, by omega⟩
    rw [spec_PrintScrape.l0, if_neg (by omega), List.drop_of_length_le (by omega)]
    simp only [List.all_nil, if_true, printedL, List.append_nil]
    rfl
  | succ d ih =>
    intro k i acc h1 h2 hk
    obtain ⟨k, rfl⟩ : ∃ m, k = m + 1 := ⟨k - 1, by omega⟩
    have hi : i < l.length := by omega
    have hsm := hs l[i] (List.getElem_mem hi)
    have e1 : wrap64 ((i : Int) + 1) = ((i + 1 : Nat) : Int) := by rw [Base.wrap_in (by omega) (by omega)]; omega
    have e10 : (⟨#[10]⟩ : ByteArray).size = 1 := rfl
    have hll := line_len l[i].f0 l[i].f1 l[i].f2 l[i].f3
    rw [spec_PrintScrape.l0, if_pos (by omega), if_pos (by omega), rd_get l i hi, spec_ok_eq _ _ _ _ (max100 hsm.1) (max100 hsm.2) k (by omega) (by omega)]
    simp only [Option.bind_some]
    rw [List.drop_eq_getElem_cons hi, List.all_cons]
    by_cases c : okF l[i].f0 l[i].f1 l[i].f2 l[i].f3 = true
    · rw [if_pos c, spec_line_eq _ _ _ _ (max100 hsm.1) (max100 hsm.2) k (by omega) (by omega)]
      simp only [Option.bind_some]
      rw [if_pos (by rw [Text.ofL_size]; omega), if_pos (by rw [ByteArray.size_append, Text.ofL_size]; omega), e1, ih k (i + 1) _ (by omega) (by rw [ByteArray.size_append, ByteArray.size_append, Text.ofL_size]; omega) (by omega)]
      rw [show okX l[i] = true from c, Bool.true_and, printedL]
      simp only [Go.Joins.data_append, Text.ofL_data, List.append_assoc]
      rfl
    · rw [if_neg c, show okX l[i] = false from Bool.eq_false_iff.2 c, Bool.false_and, if_neg (by simp)]
theorem impl_print_l0 (l : List S35) (hl : l.length ≤ 100) (hs : Small l) (d : Nat) : ∀ (k i : Nat) (acc : ByteArray), i + d = l.length → acc.size ≤ 100 * i → d + 300 < k →
    impl_PrintScrape.l0 k acc l (l.length : Int) (i : Int) = some (if (l.drop i).all okX = true then (Text.ofL (acc.data.toList ++ printedL (l.drop i)), true) else ((⟨#[]⟩ : ByteArray), false)) := by
  induction d with
  | zero =>
    intro k i acc h1 h2 hk
    obtain ⟨k, rfl⟩ : ∃ m, k = m + 1 := ⟨k - 1, by omega⟩
    rw [impl_PrintScrape.l0, if_neg (by omega), List.drop_of_length_le (by omega)]
    simp only [List.all_nil, if_true, printedL, List.append_nil]
    rfl
  | succ d ih =>
    intro k i acc h1 h2 hk
    obtain ⟨k, rfl⟩ : ∃ m, k = m + 1 := ⟨k - 1, by omega⟩
    have hi : i < l.length := by omega
    have hsm := hs l[i] (List.getElem_mem hi)
    have e1 : wrap64 ((i : Int) + 1) = ((i + 1 : Nat) : Int) := by rw [Base.wrap_in (by omega) (by omega)]; omega
    have e10 : (⟨#[10]⟩ : ByteArray).size = 1 := rfl
    have hll := line_len l[i].f0 l[i].f1 l[i].f2 l[i].f3
    rw [impl_PrintScrape.l0, if_pos (by omega), if_pos (by omega), if_pos (by omega), rd_get l i hi, impl_ok_eq _ _ _ _ (max100 hsm.1) (max100 hsm.2) k (by omega) (by omega)]
    simp only [Option.bind_some]
    rw [List.drop_eq_getElem_cons hi, List.all_cons]
    by_cases c : okF l[i].f0 l[i].f1 l[i].f2 l[i].f3 = true
    · rw [if_pos c, impl_line_eq _ _ _ _ (max100 hsm.1) (max100 hsm.2) k (by omega) (by omega)]
      simp only [Option.bind_some]
      rw [if_pos (by rw [Text.ofL_size]; omega), if_pos (by rw [ByteArray.size_append, Text.ofL_size]; omega), e1, ih k (i + 1) _ (by omega) (by rw [ByteArray.size_append, ByteArray.size_append, Text.ofL_size]; omega) (by omega)]
      rw [show okX l[i] = true from c, Bool.true_and, printedL]
      simp only [Go.Joins.data_append, Text.ofL_data, List.append_assoc]
      rfl
    · rw [if_neg c, show okX l[i] = false from Bool.eq_false_iff.2 c, Bool.false_and, if_neg (by simp)]
/-- What PrintScrape answers. -/
def printS (l : List S35) : ByteArray × Bool := if 100 < l.length then ((⟨#[]⟩ : ByteArray), false) else if l.all okX = true then (Text.ofL (printedL l), true) else ((⟨#[]⟩ : ByteArray), false)
theorem spec_print_eq (l : List S35) (hs : Small l) (k : Nat) (hk : 500 < k) : spec_PrintScrape.f k l = some (printS l) := by
  unfold spec_PrintScrape.f printS
  by_cases h : 100 < l.length
  · rw [if_pos (by omega), if_pos h]
  · rw [if_neg (by omega), if_neg h]
    have := spec_print_l0 l (by omega) hs l.length k 0 (⟨#[]⟩ : ByteArray) (by omega) (by decide) (by omega)
    simpa using this
theorem impl_print_eq (l : List S35) (hs : Small l) (k : Nat) (hk : 500 < k) : impl_PrintScrape.f k l = some (printS l) := by
  unfold impl_PrintScrape.f printS
  by_cases h : 100 < l.length
  · rw [if_pos (by omega), if_pos h]
  · rw [if_neg (by omega), if_neg h]
    have := impl_print_l0 l (by omega) hs l.length k 0 (⟨#[]⟩ : ByteArray) (by omega) (by decide) (by omega)
    simpa using this
/-- The lines of a text. -/
def linesL (s : ByteArray) : List ByteArray := if (rdOf ByteArray.empty ((Text.cutL 10 [] s.data.toList).map Text.ofL) (((Text.cutL 10 [] s.data.toList).length - 1 : Nat) : Int)).toList = ([] : List UInt8) then ((Text.cutL 10 [] s.data.toList).map Text.ofL).take ((Text.cutL 10 [] s.data.toList).length - 1) else (Text.cutL 10 [] s.data.toList).map Text.ofL
theorem cutL_most (c : UInt8) : ∀ (l acc : List UInt8), (Text.cutL c acc l).length ≤ l.length + 1
  | [], acc => by simp [Text.cutL]
  | x :: l, acc => by
    rw [Text.cutL]
    split
    · have := cutL_most c l []
      simp only [List.length_cons]
      omega
    · have := cutL_most c l (acc ++ [x])
      simp only [List.length_cons]
      omega
theorem lines_tail (P : List ByteArray) (n : Nat) (hP : P.length = n) (h1 : 1 ≤ n) (h2 : n ≤ 3000000) : (if 0 ≤ (wrap64 ((P.length : Int) - 1)) then (if (wrap64 ((P.length : Int) - 1)) < (P.length : Int) then (if (rdOf ByteArray.empty P (wrap64 ((P.length : Int) - 1))).toList = ([] : List UInt8) then (if (wrap64 ((P.length : Int) - 1)) ≤ (P.length : Int) then (some (P.take ((wrap64 ((P.length : Int) - 1)) : Int).toNat)) else (none)) else (some P)) else (none)) else (none)) =
    some (if (rdOf ByteArray.empty P ((n - 1 : Nat) : Int)).toList = ([] : List UInt8) then P.take (n - 1) else P) := by
  have e : wrap64 ((P.length : Int) - 1) = ((n - 1 : Nat) : Int) := by rw [Base.wrap_in (by omega) (by omega)]; omega
  rw [e, if_pos (by omega), if_pos (by omega), Int.toNat_natCast]
  split
  · rw [if_pos (by omega)]
  · rfl
theorem impl_lines_eq (s : ByteArray) (hs : s.size ≤ 2000000) : impl_linesOf.f s = some (linesL s) := by
  have h1 := Text.cutL_ne 10 s.data.toList []
  have h2 := cutL_most 10 s.data.toList []
  rw [data_length] at h2
  unfold impl_linesOf.f strings_Split.f linesL
  rw [if_pos (by omega), if_pos (by decide), Text.splitB_cut s 10, Option.bind_some]
  exact lines_tail _ _ (by simp) h1 (by omega)
theorem spec_lines_eq (s : ByteArray) (hs : s.size ≤ 10000) (k : Nat) (hk : s.size + 1 < k) : spec_l02Lines.f k s = some (linesL s) := by
  have h1 := Text.cutL_ne 10 s.data.toList []
  have h2 := cutL_most 10 s.data.toList []
  rw [data_length] at h2
  have hp : spec_l01Parts.f k s 10 = _ := parts_eq s hs 10 k hk
  unfold spec_l02Lines.f linesL
  rw [hp, Option.bind_some]
  exact lines_tail _ _ (by simp) h1 (by omega)
theorem line_chars (x : S35) (h : okX x = true) : (10 : UInt8) ∉ lineX x ∧ ∃ c r, lineX x = c :: r ∧ 48 ≤ c.toNat := by
  obtain ⟨n1, n2, v0, t0⟩ := okF_iff.1 h
  have hn : ∀ {s : ByteArray}, Base.nameB s = true → (10 : UInt8) ∉ s.data.toList := fun hs hm => by have := name_chars hs _ hm; exact absurd this (by decide)
  have hi : ∀ b : Int, 0 ≤ b → (10 : UInt8) ∉ Lib.itoa b := fun b hb hm => by have := (itoa_digits b hb).1 _ hm; exact absurd this (by decide)
  have hm : (10 : UInt8) ∉ milliL x.f2 := by
    unfold milliL
    split
    · exact hi _ (by omega)
    · intro hm
      rcases List.mem_append.1 hm with hm | hm
      · exact hi _ (by omega) hm
      · rcases List.mem_cons.1 hm with hm | hm
        · exact absurd hm (by decide)
        · have := frac_digits (x.f2 % 1000) (by omega) (by omega) _ hm
          exact absurd this (by decide)
  have hl : lineX x = x.f0.data.toList ++ 32 :: (x.f1.data.toList ++ 32 :: (milliL x.f2 ++ 32 :: Lib.itoa x.f3)) := by
    unfold lineX lineF
    rw [if_pos (show okF x.f0 x.f1 x.f2 x.f3 = true from h)]
  rw [hl]
  constructor
  · intro hq
    rcases List.mem_append.1 hq with hq | hq
    · exact hn n1 hq
    · rcases List.mem_cons.1 hq with hq | hq
      · exact absurd hq (by decide)
      · rcases List.mem_append.1 hq with hq | hq
        · exact hn n2 hq
        · rcases List.mem_cons.1 hq with hq | hq
          · exact absurd hq (by decide)
          · rcases List.mem_append.1 hq with hq | hq
            · exact hm hq
            · rcases List.mem_cons.1 hq with hq | hq
              · exact absurd hq (by decide)
              · exact hi _ t0.1 hq
  · have hp := name_pos n1
    have hlen := data_length x.f0
    cases hx : x.f0.data.toList with
    | nil => rw [hx] at hlen; simp at hlen; omega
    | cons c r => exact ⟨c, _, rfl, name_chars n1 c (by rw [hx]; exact List.mem_cons_self)⟩
theorem printed_cut : ∀ (l : List S35), l.all okX = true → Text.cutL 10 [] (printedL l) = l.map lineX ++ [[]]
  | [], _ => rfl
  | x :: l, h => by
    simp only [List.all_cons, Bool.and_eq_true] at h
    rw [printedL, Text.cutL_step _ _ _ _ (line_chars x h.1).1, printed_cut l h.2]
    rfl
theorem printed_lines (l : List S35) (h : l.all okX = true) : linesL (Text.ofL (printedL l)) = l.map fun x => Text.ofL (lineX x) := by
  unfold linesL
  rw [Text.ofL_data, printed_cut l h]
  have hn : (l.map lineX ++ [[]]).length - 1 = l.length := by simp
  rw [hn]
  have hr : rdOf ByteArray.empty ((l.map lineX ++ [[]]).map Text.ofL) ((l.length : Nat) : Int) = Text.ofL [] := by
    unfold rdOf
    rw [Int.toNat_natCast, List.getD_eq_getElem?_getD]
    simp
  rw [hr, if_pos (by rw [ByteArray.toList_eq, Text.ofL_data])]
  rw [List.map_append, List.take_append_of_le_length (by simp), List.take_of_length_le (by simp), List.map_map]
  rfl
/-- The lines read one after the other. -/
noncomputable def scanL : List ByteArray → Nat → List S35 → List Int → List S35 × List Int
  | [], _, out, bad => (out, bad)
  | s :: r, i, out, bad =>
    if (readS s).2.2.2.2 = true ∧ hasS out (readS s).1 (readS s).2.1 (readS s).2.2.2.1 = false then scanL r (i + 1) (out ++ [⟨(readS s).1, (readS s).2.1, (readS s).2.2.1, (readS s).2.2.2.1⟩]) bad
    else scanL r (i + 1) out (bad ++ [((i + 1 : Nat) : Int)])
theorem scan_len : ∀ (L : List ByteArray) (i : Nat) (out : List S35) (bad : List Int), (scanL L i out bad).1.length + (scanL L i out bad).2.length = out.length + bad.length + L.length
  | [], i, out, bad => rfl
  | s :: r, i, out, bad => by
    rw [scanL]
    split
    · rw [scan_len r]
      simp only [List.length_append, List.length_cons, List.length_nil]
      omega
    · rw [scan_len r]
      simp only [List.length_append, List.length_cons, List.length_nil]
      omega
/-- A line that is neither blank nor a remark. -/
def Told (s : ByteArray) : Prop := s.toList ≠ [] ∧ 0 < s.size ∧ bt s 0 ≠ 35 ∧ s.size ≤ 100
theorem rdO_get (L : List ByteArray) (i : Nat) (h : i < L.length) : rdOf ByteArray.empty L (i : Int) = L[i] := by
  unfold rdOf
  rw [Int.toNat_natCast, List.getD_eq_getElem?_getD, List.getElem?_eq_getElem h]
  rfl
theorem impl_scan (L : List ByteArray) (hL : L.length ≤ 100) (ht : ∀ s ∈ L, Told s) (d : Nat) : ∀ (k i : Nat) (out : List S35) (bad : List Int), i + d = L.length → out.length + bad.length ≤ i → 2 * d + 1000 < k →
    impl_ParseScrape.l0 k out bad L (L.length : Int) (i : Int) = some (scanL (L.drop i) i out bad) := by
  induction d with
  | zero =>
    intro k i out bad h1 h2 hk
    obtain ⟨k, rfl⟩ : ∃ m, k = m + 1 := ⟨k - 1, by omega⟩
    rw [impl_ParseScrape.l0, if_neg (by omega), List.drop_of_length_le (by omega)]
    rfl
  | succ d ih =>
    intro k i out bad h1 h2 hk
    obtain ⟨k, rfl⟩ : ∃ m, k = m + 2 := ⟨k - 2, by omega⟩
    have hi : i < L.length := by omega
    obtain ⟨t1, t2, t3, t4⟩ := ht L[i] (List.getElem_mem hi)
    have e1 : wrap64 ((i : Int) + 1) = ((i + 1 : Nat) : Int) := by rw [Base.wrap_in (by omega) (by omega)]; omega
    have hp := (sample_parse_eq L[i] (by omega) k (by omega)).2
    rw [impl_ParseScrape.l0, if_pos (by omega), if_pos (by omega), if_pos (by omega), rdO_get L i hi, if_neg t1, if_pos (by omega), beq_eq_false_iff_ne.2 t3, impl_ParseScrape.j2, if_neg (by simp), hp, Option.bind_some]
    rw [List.drop_eq_getElem_cons hi, scanL]
    generalize readS L[i] = q
    obtain ⟨a, b, v, t, ok⟩ := q
    simp only
    by_cases c : ok = true
    · rw [if_pos c]
      unfold impl_Sample.f
      rw [Option.bind_some]
      by_cases g : hasS out a b t = true
      · rw [if_pos g, if_pos (by omega), if_neg (by rw [g]; simp), e1]
        exact ih k (i + 1) _ _ (by omega) (by simp only [List.length_append, List.length_cons, List.length_nil]; omega) (by omega)
      · rw [if_neg g, if_pos (by omega), if_pos ⟨c, by simpa using g⟩, e1]
        exact ih k (i + 1) _ _ (by omega) (by simp only [List.length_append, List.length_cons, List.length_nil]; omega) (by omega)
    · rw [if_neg c, if_pos (by omega), if_neg (fun h => c h.1), e1]
      exact ih k (i + 1) _ _ (by omega) (by simp only [List.length_append, List.length_cons, List.length_nil]; omega) (by omega)
theorem dup_l1 (L : List ByteArray) (out : List S35) (bad : List Int) (ho : out.length ≤ 1000) (hbd : bad.length ≤ 1000) (i : Nat) (hi : i ≤ 1000) (a b : ByteArray) (v t : Int) (d : Nat) : ∀ (k j : Nat) (ok : Bool), j + d = out.length →
    spec_ParseScrape.l1 (k + d + 1) L out bad (i : Int) ok (j : Int) a b v t = if ok = true ∧ (out.drop j).any (sameS a b t) = false then spec_ParseScrape.l0 k L (out ++ [⟨a, b, v, t⟩]) bad (wrap64 ((i : Int) + 1)) else spec_ParseScrape.l0 k L out (bad ++ [wrap64 ((i : Int) + 1)]) (wrap64 ((i : Int) + 1)) := by
  induction d with
  | zero =>
    intro k j ok h1
    rw [spec_ParseScrape.l1, if_neg (by omega), List.drop_of_length_le (by omega)]
    by_cases c : ok = true
    · rw [if_pos c, if_pos (by omega), if_pos ⟨c, rfl⟩]
    · rw [if_neg c, if_pos (by omega), if_neg (fun h => c h.1)]
  | succ d ih =>
    intro k j ok h1
    have hj : j < out.length := by omega
    have e1 : wrap64 ((j : Int) + 1) = ((j + 1 : Nat) : Int) := by rw [Base.wrap_in (by omega) (by omega)]; omega
    rw [show k + (d + 1) + 1 = (k + d + 1) + 1 by omega, spec_ParseScrape.l1, if_pos (by omega), if_pos (by omega), rd_get out j hj, e1, ih k (j + 1) ok (by omega), ih k (j + 1) false (by omega)]
    rw [List.drop_eq_getElem_cons hj, List.any_cons]
    unfold sameS
    by_cases c0 : out[j].f0.toList = a.toList
    · rw [if_pos c0]
      by_cases c1 : out[j].f1.toList = b.toList
      · rw [if_pos c1]
        by_cases c2 : out[j].f3 = t
        · rw [if_pos c2, c0, c1, c2]
          simp
        · rw [if_neg c2]
          simp [c2]
      · rw [if_neg c1]
        simp [c1]
    · rw [if_neg c0]
      simp [c0]
theorem spec_scan (L : List ByteArray) (hL : L.length ≤ 100) (ht : ∀ s ∈ L, Told s) (d : Nat) : ∀ (k i : Nat) (out : List S35) (bad : List Int), i + d = L.length → out.length + bad.length ≤ i → 200 * d + 1000 < k →
    spec_ParseScrape.l0 k L out bad (i : Int) = some (scanL (L.drop i) i out bad) := by
  induction d with
  | zero =>
    intro k i out bad h1 h2 hk
    obtain ⟨k, rfl⟩ : ∃ m, k = m + 1 := ⟨k - 1, by omega⟩
    rw [spec_ParseScrape.l0, if_neg (by omega), List.drop_of_length_le (by omega)]
    rfl
  | succ d ih =>
    intro k i out bad h1 h2 hk
    obtain ⟨k, rfl⟩ : ∃ m, k = m + out.length + 1 + 2 := ⟨k - out.length - 3, by omega⟩
    have hi : i < L.length := by omega
    obtain ⟨t1, t2, t3, t4⟩ := ht L[i] (List.getElem_mem hi)
    have e1 : wrap64 ((i : Int) + 1) = ((i + 1 : Nat) : Int) := by rw [Base.wrap_in (by omega) (by omega)]; omega
    have hp := (sample_parse_eq L[i] (by omega) (k + out.length + 1) (by omega)).1
    rw [spec_ParseScrape.l0, if_pos (by omega), if_pos (by omega), rdO_get L i hi, if_neg t1, if_pos (by omega), beq_eq_false_iff_ne.2 t3, spec_ParseScrape.j1, if_neg (by simp), if_pos (by omega), if_pos (by omega), rdO_get L i hi, hp, Option.bind_some]
    rw [List.drop_eq_getElem_cons hi, scanL]
    generalize readS L[i] = q
    obtain ⟨a, b, v, t, ok⟩ := q
    simp only
    have hd := dup_l1 L out bad (by omega) (by omega) i (by omega) a b v t out.length k 0 ok (by omega)
    refine (show _ = _ from hd).trans ?_
    rw [List.drop_zero, e1]
    unfold hasS
    by_cases g : ok = true ∧ out.any (sameS a b t) = false
    · rw [if_pos g, if_pos g]
      exact ih k (i + 1) _ _ (by omega) (by simp only [List.length_append, List.length_cons, List.length_nil]; omega) (by omega)
    · rw [if_neg g, if_neg g]
      exact ih k (i + 1) _ _ (by omega) (by simp only [List.length_append, List.length_cons, List.length_nil]; omega) (by omega)
theorem told_line (x : S35) (h : okX x = true) : Told (Text.ofL (lineX x)) := by
  obtain ⟨_, c, r, hl, hc⟩ := line_chars x h
  have hlen := line_len x.f0 x.f1 x.f2 x.f3
  refine ⟨?_, ?_, ?_, ?_⟩
  · rw [ByteArray.toList_eq, Text.ofL_data, hl]
    simp
  · rw [Text.ofL_size, hl]
    simp
  · have hp : 0 < (Text.ofL (lineX x)).data.toList.length := by rw [Text.ofL_data, hl]; simp
    have e2 := Base.bt_get (Text.ofL (lineX x)) 0 hp
    have e3 : (Text.ofL (lineX x)).data.toList[0] = c := by simp [Text.ofL_data, hl]
    rw [e3] at e2
    have e4 : bt (Text.ofL (lineX x)) 0 = (c.toNat : Int) := e2
    omega
  · rw [Text.ofL_size]
    have : (lineX x).length ≤ 60 := hlen
    omega
/-- Both read a printed text so. -/
theorem scrape_eq (l : List S35) (hl : l.length ≤ 100) (hok : l.all okX = true) (hsz : (Text.ofL (printedL l)).size ≤ 3000) (k : Nat) (hk : 30000 < k) :
    impl_ParseScrape.f k (Text.ofL (printedL l)) = some (scanL (l.map fun x => Text.ofL (lineX x)) 0 [] []) ∧ spec_ParseScrape.f k (Text.ofL (printedL l)) = some (scanL (l.map fun x => Text.ofL (lineX x)) 0 [] []) := by
  have hL : (l.map fun x => Text.ofL (lineX x)).length = l.length := by simp
  have ht : ∀ s ∈ (l.map fun x => Text.ofL (lineX x)), Told s := by
    intro s hs
    obtain ⟨x, hx, rfl⟩ := List.mem_map.1 hs
    exact told_line x (List.all_eq_true.1 hok x hx)
  obtain ⟨k, rfl⟩ : ∃ m, k = m + 1 := ⟨k - 1, by omega⟩
  constructor
  · unfold impl_ParseScrape.f
    rw [impl_lines_eq _ (by omega), Option.bind_some, printed_lines l hok, if_neg (by omega), decide_eq_false (by omega), impl_ParseScrape.j0, if_neg (by simp)]
    have := impl_scan _ (by omega) ht l.length k 0 [] [] (by omega) (by simp) (by omega)
    exact this
  · unfold spec_ParseScrape.f
    rw [if_neg (by omega), spec_lines_eq _ (by omega) (k + 1) (by omega), Option.bind_some, printed_lines l hok, if_neg (by omega)]
    have := spec_scan _ (by omega) ht l.length (k + 1) 0 [] [] (by omega) (by simp) (by omega)
    exact this
theorem back_l0 (l : List S35) (hl : l.length ≤ 100) (hs : Small l) (hok : l.all okX = true) (d : Nat) : ∀ (k i : Nat), i + d = l.length → d + 1000 < k → laws_FnSamples.l0 k l (i : Int) = some true := by
  induction d with
  | zero =>
    intro k i h1 hk
    obtain ⟨k, rfl⟩ : ∃ m, k = m + 1 := ⟨k - 1, by omega⟩
    rw [laws_FnSamples.l0, if_neg (by omega)]
  | succ d ih =>
    intro k i h1 hk
    obtain ⟨k, rfl⟩ : ∃ m, k = m + 1 := ⟨k - 1, by omega⟩
    have hi : i < l.length := by omega
    have hsm := hs l[i] (List.getElem_mem hi)
    have hx : okF l[i].f0 l[i].f1 l[i].f2 l[i].f3 = true := List.all_eq_true.1 hok l[i] (List.getElem_mem hi)
    have e1 : wrap64 ((i : Int) + 1) = ((i + 1 : Nat) : Int) := by rw [Base.wrap_in (by omega) (by omega)]; omega
    have hll := line_len l[i].f0 l[i].f1 l[i].f2 l[i].f3
    have hp := (sample_parse_eq (Text.ofL (lineF l[i].f0 l[i].f1 l[i].f2 l[i].f3)) (by rw [Text.ofL_size]; omega) k (by rw [Text.ofL_size]; omega)).2
    rw [readS_line l[i].f0 l[i].f1 l[i].f2 l[i].f3 hx _ rfl] at hp
    rw [laws_FnSamples.l0, if_pos (by omega), if_pos (by omega), rd_get l i hi, impl_line_eq _ _ _ _ (max100 hsm.1) (max100 hsm.2) k (by omega) (by omega), Option.bind_some, hp, Option.bind_some, if_pos rfl, if_neg (by simp), e1]
    exact ih k (i + 1) (by omega) (by omega)
theorem isort_small (l : List S35) (h : Small l) : Small (isort ltS l) := fun x hx => h x (mem_isort l hx)
theorem FnSamples (l0 : List Int) (_ : l0.length ≤ maxLen) (_ : l0.length * 1 ≤ 140737488351232) (_ : ∀ x ∈ l0, (Lit.int .u8 x).wf = true) : ∃ k, laws_FnSamples.f k l0 = some true := by
  refine ⟨l0.length + 200000, ?_⟩
  unfold laws_FnSamples.f laws_big.f
  rw [Option.bind_some]
  by_cases hb : (l0.length : Int) > 1048576
  · rw [if_pos (decide_eq_true hb)]
  · rw [if_neg (by simpa using hb)]
    obtain ⟨xs, ed, hx, hs⟩ := draw_ok l0 (by omega) (l0.length + 200000) (by omega)
    generalize hK : l0.length + 200000 = K at *
    obtain ⟨k, rfl⟩ : ∃ m, K = m + 4 := ⟨K - 4, by omega⟩
    rw [ed, Option.bind_some, spec_print_eq xs hs _ (by omega), Option.bind_some, impl_print_eq xs hs _ (by omega), Option.bind_some, if_neg (by simp), show ((printS xs).1.toList != (printS xs).1.toList) = false by simp]
    have hsort : ∀ l : List S35, Small l → impl_SortSamples.f l = some (if 300 < l.length then [] else isort ltS l) := fun l _ => by
      unfold impl_SortSamples.f
      rw [impl_sort_eq]
    rw [laws_FnSamples.j0, if_neg (by simp), hsort xs hs, Option.bind_some]
    have hnext : laws_FnSamples.j1 (k + 3) xs (printS xs).2 (printS xs).1 false = some true := by
      rw [laws_FnSamples.j1, if_neg (by simp)]
      unfold printS
      by_cases h1 : 100 < xs.length
      · rw [if_pos h1, if_neg (by simp), laws_FnSamples.j2, if_pos rfl]
      · rw [if_neg h1]
        by_cases h2 : xs.all okX = true
        · rw [if_pos h2, if_pos rfl]
          by_cases h3 : ((Text.ofL (printedL xs)).size : Int) > 3000
          · rw [decide_eq_true h3, laws_FnSamples.j2, if_pos rfl]
          · rw [decide_eq_false h3, laws_FnSamples.j2, if_neg (by simp)]
            obtain ⟨p1, p2⟩ := scrape_eq xs (by omega) h2 (by omega) (k + 1) (by omega)
            have hlen := scan_len (xs.map fun x => Text.ofL (lineX x)) 0 [] []
            simp only [List.length_map, List.length_nil, Nat.zero_add] at hlen
            rw [p1, Option.bind_some, p2, Option.bind_some, same_eq _ (by omega) (k + 1) (by omega), Option.bind_some, if_pos rfl, sameI_eq _ (by omega) (k + 1) (by omega), Option.bind_some, if_pos rfl]
            rw [Base.wrap_in (by omega) (by omega), bne_eq_false_iff_eq.2 (by omega), laws_FnSamples.j3, if_neg (by simp)]
            exact back_l0 xs (by omega) hs h2 xs.length k 0 (by omega) (by omega)
        · rw [if_neg h2, if_neg (by simp), laws_FnSamples.j2, if_pos rfl]
    by_cases h : 300 < xs.length
    · rw [if_pos h, hsort [] (by intro x hx; simp at hx), Option.bind_some, if_neg (by omega)]
      exact hnext
    · rw [if_neg h, hsort _ (isort_small xs hs), Option.bind_some, isort_length, if_neg h, isort_idem ltS_swo, if_pos (by omega), if_pos rfl, spec_sort_eq xs hs (k + 3) (by omega), if_neg h, Option.bind_some, same_eq _ (by rw [isort_length]; omega) (k + 3) (by rw [isort_length]; omega), Option.bind_some, if_pos rfl, Option.bind_some]
      exact hnext

end Go.Proofs.YtbbnlagdahickaaGreatDoor.Pure
