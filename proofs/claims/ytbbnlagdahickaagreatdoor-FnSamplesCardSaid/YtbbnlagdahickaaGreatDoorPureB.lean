/- A sample's line and its two readings: the Lean functions of the program and of the reference agree, and a line is read as its sample. Conditions: those at each theorem. -/
import Derived.Test.YtbbnlagdahickaaGreatDoorPureA
import Derived.Test.YtbbnlagdahickaaGreatDoorOFnSamplesx13
import Derived.Test.YtbbnlagdahickaaGreatDoorBase
import Derived.Test.YtbbnlagdahickaaGreatDoorText
namespace Go.Proofs.YtbbnlagdahickaaGreatDoor.Pure
open Go.RowKit Go.Proofs.YtbbnlagdahickaaGreatDoor Go.Proofs.YtbbnlagdahickaaGreatDoor.PFnSamples Go.Proofs.YtbbnlagdahickaaGreatDoorW.PrintWords Go.Proofs.YtbbnlagdahickaaGreatDoorW.PrintLast
set_option linter.unusedSimpArgs false
set_option linter.unusedVariables false


theorem name_ge (s : ByteArray) (d : Nat) : ∀ i : Nat, i + d = s.size → Base.nameRest s d i = true → ∀ c ∈ s.data.toList.drop i, 48 ≤ c.toNat := by
  have hL : s.data.toList.length = s.size := data_length s
  induction d with
  | zero =>
    intro i h1 _
    rw [List.drop_of_length_le (by omega)]
    simp
  | succ d ih =>
    intro i h1 h2
    have hi : i < s.data.toList.length := by omega
    rw [List.drop_eq_getElem_cons hi]
    simp only [Base.nameRest, Bool.and_eq_true] at h2
    have h3 := ih (i + 1) (by omega) (by have := h2.2; rw [show ((i + 1 : Nat) : Int) = (i : Int) + 1 by omega]; exact this)
    intro c hc
    rcases List.mem_cons.1 hc with rfl | hc
    · have h4 := h2.1
      rw [Base.bt_get s i hi] at h4
      simp only [Base.chr, Bool.not_eq_true', Bool.and_eq_false_iff, Bool.or_eq_false_iff, decide_eq_false_iff_not] at h4
      omega
    · exact h3 c hc
theorem name_chars {s : ByteArray} (h : Base.nameB s = true) : ∀ c ∈ s.data.toList, 48 ≤ c.toNat := by
  simp only [Base.nameB, Bool.and_eq_true] at h
  have := name_ge s s.size 0 (by omega) (by simpa using h.1)
  simpa using this
theorem name_pos {s : ByteArray} (h : Base.nameB s = true) : 0 < s.size := by
  simp only [Base.nameB, Bool.and_eq_true, decide_eq_true_eq] at h
  omega
/-- A sample that has a line. -/
def okF (a b : ByteArray) (v t : Int) : Bool := Base.nameB a && (Base.nameB b && (decide (0 ≤ v ∧ v ≤ 1000000000) && decide (0 ≤ t ∧ t ≤ 1000000000)))
theorem okF_iff {a b : ByteArray} {v t : Int} : okF a b v t = true ↔ Base.nameB a = true ∧ Base.nameB b = true ∧ (0 ≤ v ∧ v ≤ 1000000000) ∧ (0 ≤ t ∧ t ≤ 1000000000) := by simp [okF, Bool.and_eq_true]
theorem spec_ok_eq (a b : ByteArray) (v t : Int) (ha : a.size ≤ maxLen) (hb : b.size ≤ maxLen) (k : Nat) (h1 : a.size < k) (h2 : b.size < k) : spec_SampleOk.f k a b v t = some (okF a b v t) := by
  unfold spec_SampleOk.f okF
  rw [spec_NameOk_eq a ha k h1, spec_NameOk_eq b hb k h2, spec_amt_eq, spec_tick_eq]
  cases Base.nameB a <;> cases Base.nameB b <;> by_cases h : 0 ≤ v ∧ v ≤ 1000000000 <;> simp [h]
theorem impl_ok_eq (a b : ByteArray) (v t : Int) (ha : a.size ≤ maxLen) (hb : b.size ≤ maxLen) (k : Nat) (h1 : a.size < k) (h2 : b.size < k) : impl_SampleOk.f k a b v t = some (okF a b v t) := by
  unfold impl_SampleOk.f okF
  rw [impl_NameOk_eq a ha k h1, impl_NameOk_eq b hb k h2, impl_size_eq, impl_tick_eq]
  cases Base.nameB a <;> cases Base.nameB b <;> by_cases h : 0 ≤ v ∧ v ≤ 1000000000 <;> simp [h]
/-- The line of a sample. -/
def lineF (a b : ByteArray) (v t : Int) : List UInt8 := if okF a b v t = true then a.data.toList ++ 32 :: (b.data.toList ++ 32 :: (milliL v ++ 32 :: Lib.itoa t)) else []
theorem spec_line_eq (a b : ByteArray) (v t : Int) (ha : a.size ≤ maxLen) (hb : b.size ≤ maxLen) (k : Nat) (h1 : a.size + 40 < k) (h2 : b.size + 40 < k) : spec_SampleLine.f k a b v t = some (Text.ofL (lineF a b v t)) := by
  unfold spec_SampleLine.f
  rw [spec_ok_eq a b v t ha hb k (by omega) (by omega)]
  simp only [Option.bind_some]
  unfold lineF
  by_cases hg : okF a b v t = true
  · rw [if_pos hg, if_pos hg]
    obtain ⟨n1, n2, v0, t0⟩ := okF_iff.1 hg
    have s1 := name_size n1
    have s2 := name_size n2
    have e1 : (⟨#[32]⟩ : ByteArray).size = 1 := rfl
    have hm := milli_size v
    have hlen := itoa_len t t0.1 (by omega)
    have hT : (⟨(Lib.itoa t).toArray⟩ : ByteArray).size = (Lib.itoa t).length := rfl
    rw [if_pos (by omega), if_pos (by simp only [ByteArray.size_append, e1]; omega), if_pos (by simp only [ByteArray.size_append, e1]; omega), spec_Milli_eq v k (by omega)]
    simp only [Option.bind_some]
    rw [if_pos (by simp only [ByteArray.size_append, e1]; omega), if_pos (by simp only [ByteArray.size_append, e1]; omega), num_eq t t0.1 (by omega) k (by omega)]
    simp only [Option.bind_some]
    rw [if_pos (by simp only [ByteArray.size_append, e1, hT]; omega)]
    congr 1
    apply Go.WideShapes.bytes_inj
    simp only [Go.Joins.data_append, milli_bytes v v0.1 v0.2, Text.ofL_data]
    simp
  · rw [if_neg hg, if_neg hg]
    rfl
theorem impl_line_eq (a b : ByteArray) (v t : Int) (ha : a.size ≤ maxLen) (hb : b.size ≤ maxLen) (k : Nat) (h1 : a.size + 40 < k) (h2 : b.size + 40 < k) : impl_SampleLine.f k a b v t = some (Text.ofL (lineF a b v t)) := by
  unfold impl_SampleLine.f
  rw [impl_ok_eq a b v t ha hb k (by omega) (by omega)]
  simp only [Option.bind_some]
  unfold lineF
  by_cases hg : okF a b v t = true
  · rw [if_pos hg, if_pos hg]
    obtain ⟨n1, n2, v0, t0⟩ := okF_iff.1 hg
    have s1 := name_size n1
    have s2 := name_size n2
    have hm := milli_size v
    have hlen := itoa_len t t0.1 (by omega)
    have hT : (⟨(Lib.itoa t).toArray⟩ : ByteArray).size = (Lib.itoa t).length := rfl
    have hMv : (milliB v).data.toList = milliL v := by rw [milli_bytes v v0.1 v0.2]; rfl
    rw [impl_Milli_eq v k (by omega), number_eq t t0.1 (by omega)]
    simp only [Option.bind_some]
    rw [words_eq [a, b, milliB v, (⟨(Lib.itoa t).toArray⟩ : ByteArray)] (by simp) (by
      intro x hx
      simp only [List.mem_cons, List.not_mem_nil, or_false] at hx
      rcases hx with rfl | rfl | rfl | rfl <;> omega)]
    simp only [Option.bind_some]
    congr 1
    apply Go.WideShapes.bytes_inj
    simp only [List.map_cons, List.map_nil, Lib.join_cons, Lib.joinTail, List.flatten_cons, List.flatten_nil, List.append_nil, hMv, Text.ofL_data]
    simp
  · rw [if_neg hg, if_neg hg]
    rfl
theorem line_cut (a b : ByteArray) (v t : Int) (h : okF a b v t = true) : Text.cutL 32 [] (lineF a b v t) = [a.data.toList, b.data.toList, milliL v, Lib.itoa t] := by
  unfold lineF
  rw [if_pos h]
  obtain ⟨n1, n2, v0, t0⟩ := okF_iff.1 h
  rw [Text.cutL_step _ _ _ _ (name_blank n1), Text.cutL_step _ _ _ _ (name_blank n2), Text.cutL_step _ _ _ _ (milli_blank v v0.1), Text.cutL_last _ _ _ (itoa_blank t t0.1)]
  simp
theorem line_len (a b : ByteArray) (v t : Int) : (lineF a b v t).length ≤ 60 := by
  unfold lineF
  by_cases h : okF a b v t = true
  · rw [if_pos h]
    obtain ⟨n1, n2, v0, t0⟩ := okF_iff.1 h
    have h1 := name_size n1
    have h2 := name_size n2
    have h3 := milli_len v v0.1 v0.2
    have h4 := digs_len t t0.1 (by omega)
    have h5 := data_length a
    have h6 := data_length b
    simp only [List.length_append, List.length_cons]
    omega
  · rw [if_neg h]
    simp
def none5 : ByteArray × ByteArray × Int × Int × Bool := ((⟨#[]⟩ : ByteArray), (⟨#[]⟩ : ByteArray), 0, 0, false)
open Classical in
/-- What a line is read as: the sample whose line it is. -/
noncomputable def readS (s : ByteArray) : ByteArray × ByteArray × Int × Int × Bool :=
  if h : ∃ x : S35, okF x.f0 x.f1 x.f2 x.f3 = true ∧ lineF x.f0 x.f1 x.f2 x.f3 = s.data.toList then (h.choose.f0, h.choose.f1, h.choose.f2, h.choose.f3, true) else none5
theorem milli_inj {v w : Int} (h0 : 0 ≤ v) (h1 : v ≤ 1000000000) (h2 : 0 ≤ w) (h3 : w ≤ 1000000000) (h : milliL v = milliL w) : v = w := by
  have e1 := readM_milli v h0 h1
  have e2 := readM_milli w h2 h3
  rw [h, e2] at e1
  exact (congrArg Prod.fst e1).symm
theorem itoa_inj {v w : Int} (h0 : 0 ≤ v) (h2 : 0 ≤ w) (h : Lib.itoa v = Lib.itoa w) : v = w := by
  have e1 := (itoa_digits v h0).2.1
  have e2 := (itoa_digits w h2).2.1
  rw [h, e2] at e1
  omega
theorem line_inj {a b a' b' : ByteArray} {v t v' t' : Int} (h : okF a b v t = true) (h' : okF a' b' v' t' = true) (e : lineF a b v t = lineF a' b' v' t') : a = a' ∧ b = b' ∧ v = v' ∧ t = t' := by
  have c := line_cut a b v t h
  rw [e, line_cut a' b' v' t' h'] at c
  simp only [List.cons.injEq, and_true] at c
  obtain ⟨c0, c1, c2, c3⟩ := c
  obtain ⟨_, _, v0, t0⟩ := okF_iff.1 h
  obtain ⟨_, _, v1, t1⟩ := okF_iff.1 h'
  exact ⟨(Go.WideShapes.bytes_inj c0).symm, (Go.WideShapes.bytes_inj c1).symm, (milli_inj v1.1 v1.2 v0.1 v0.2 c2).symm, (itoa_inj t1.1 t0.1 c3).symm⟩
theorem readS_line (a b : ByteArray) (v t : Int) (h : okF a b v t = true) (s : ByteArray) (e : lineF a b v t = s.data.toList) : readS s = (a, b, v, t, true) := by
  unfold readS
  have hex : ∃ x : S35, okF x.f0 x.f1 x.f2 x.f3 = true ∧ lineF x.f0 x.f1 x.f2 x.f3 = s.data.toList := ⟨⟨a, b, v, t⟩, h, e⟩
  rw [dif_pos hex]
  obtain ⟨g1, g2⟩ := hex.choose_spec
  obtain ⟨e1, e2, e3, e4⟩ := line_inj g1 h (g2.trans e.symm)
  rw [e1, e2, e3, e4]
/-- Both read a line so. -/
theorem sample_parse_eq (s : ByteArray) (hs : s.size ≤ 1048576) (k : Nat) (hk : s.size + 200 < k) : spec_ParseSample.f k s = some (readS s) ∧ impl_ParseSample.f k s = some (readS s) := by
  have hL : s.data.toList.length = s.size := data_length s
  have hlen := Text.cutL_len 32 s.data.toList []
  have hspl := split_eq s (by omega) 4
  have hparts := fun (h : s.size ≤ 10000) => parts_eq s h 32 k (by omega)
  have hjoin := join_cut s.data.toList []
  generalize hP : Text.cutL 32 [] s.data.toList = P at *
  have hp32 : (((32 : UInt8).toNat : Nat) : Int) = 32 := rfl
  rw [hp32] at hparts
  by_cases h4 : P.length = 4
  · match P, h4 with
    | [u0, u1, u2, u3], _ =>
      have l0 := hlen u0 (by simp)
      have l1 := hlen u1 (by simp)
      have l2 := hlen u2 (by simp)
      have l3 := hlen u3 (by simp)
      simp only [List.length_nil, Nat.zero_add] at l0 l1 l2 l3
      have hb4 : (((([u0, u1, u2, u3] : List (List UInt8)).length : Nat) : Int) == 4) = true := rfl
      have r0 : rdOf ByteArray.empty ([u0, u1, u2, u3].map Text.ofL) 0 = Text.ofL u0 := rfl
      have r1 : rdOf ByteArray.empty ([u0, u1, u2, u3].map Text.ofL) 1 = Text.ofL u1 := rfl
      have r2 : rdOf ByteArray.empty ([u0, u1, u2, u3].map Text.ofL) 2 = Text.ofL u2 := rfl
      have r3 : rdOf ByteArray.empty ([u0, u1, u2, u3].map Text.ofL) 3 = Text.ofL u3 := rfl
      have hlc : (([u0, u1, u2, u3] : List (List UInt8)).length : Int) = 4 := rfl
      have z0 : (Text.ofL u0).size ≤ maxLen := by rw [Text.ofL_size]; unfold maxLen; omega
      have z1 : (Text.ofL u1).size ≤ maxLen := by rw [Text.ofL_size]; unfold maxLen; omega
      have y0 : (Text.ofL u0).size ≤ s.size := by rw [Text.ofL_size]; omega
      have y1 : (Text.ofL u1).size ≤ s.size := by rw [Text.ofL_size]; omega
      have hat : impl_atoi.f (Text.ofL u3) = some (atoiOf (Text.ofL u3)) := by
        unfold impl_atoi.f
        rw [if_pos (by rw [Text.ofL_size]; omega)]
      -- whatever sample's line it is, its words are those
      have words : ∀ a b v t, okF a b v t = true → lineF a b v t = s.data.toList → a = Text.ofL u0 ∧ b = Text.ofL u1 ∧ u2 = milliL v ∧ u3 = Lib.itoa t := by
        intro a b v t hok h
        have hc := line_cut a b v t hok
        rw [h, hP] at hc
        simp only [List.cons.injEq, and_true] at hc
        exact ⟨by rw [hc.1]; rfl, by rw [hc.2.1]; rfl, hc.2.2.1, hc.2.2.2⟩
      by_cases hex : ∃ v t, okF (Text.ofL u0) (Text.ofL u1) v t = true ∧ lineF (Text.ofL u0) (Text.ofL u1) v t = s.data.toList
      · obtain ⟨v, t, hok, hl⟩ := hex
        obtain ⟨_, _, rfl, rfl⟩ := words _ _ v t hok hl
        rw [readS_line _ _ v t hok s hl]
        obtain ⟨n1, n2, v0, t0⟩ := okF_iff.1 hok
        have hA : atoiOf (Text.ofL (Lib.itoa t)) = t := by
          unfold atoiOf
          rw [Text.ofL_data, Text.atoi_itoa t t0.1 (by omega)]
        constructor
        · have hs60 : s.size ≤ 60 := by
            have := line_len (Text.ofL u0) (Text.ofL u1) v t
            rw [hl] at this
            omega
          unfold spec_ParseSample.f
          rw [if_neg (by omega), hparts (by omega)]
          simp only [Option.bind_some, List.length_map]
          rw [hlc, if_pos rfl, if_pos (by omega), r2, read_eq _ k (by omega), readM_milli v v0.1 v0.2]
          simp only [Option.bind_some]
          rw [if_pos (by omega), r3, read_itoa k t t0.1 (by omega) (by omega)]
          simp only [Option.bind_some]
          rw [if_pos (by omega), if_pos (by omega), if_pos trivial, if_pos trivial, r0, r1, spec_ok_eq _ _ v t z0 z1 k (by omega) (by omega)]
          simp only [Option.bind_some]
          rw [if_pos hok]
        · unfold impl_ParseSample.f
          rw [hspl]
          simp only [Option.bind_some, List.length_map]
          rw [if_pos hb4, hlc, if_pos (by omega), r2, implMilli_milli v v0.1 v0.2 k (by omega)]
          simp only [Option.bind_some]
          rw [if_pos (by omega), if_pos (by omega), if_pos (by omega), r3, hat]
          simp only [Option.bind_some, hA]
          rw [r0, r1, impl_ok_eq _ _ v t z0 z1 k (by omega) (by omega)]
          simp only [Option.bind_some]
          rw [if_pos hok, impl_line_eq _ _ v t z0 z1 k (by omega) (by omega)]
          simp only [Option.bind_some]
          rw [if_pos (by rw [ByteArray.toList_eq, ByteArray.toList_eq, Text.ofL_data, hl])]
      · have nol : ∀ v t, okF (Text.ofL u0) (Text.ofL u1) v t = true → ¬ lineF (Text.ofL u0) (Text.ofL u1) v t = s.data.toList := fun v t h1 h2 => hex ⟨v, t, h1, h2⟩
        have hread : readS s = none5 := by
          unfold readS
          rw [dif_neg]
          rintro ⟨⟨a, b, v, t⟩, h1, h2⟩
          obtain ⟨rfl, rfl, _, _⟩ := words _ _ v t h1 h2
          exact nol v t h1 h2
        rw [hread]
        constructor
        · unfold spec_ParseSample.f
          by_cases h60 : (s.size : Int) > 60
          · rw [if_pos h60]
            rfl
          · rw [if_neg h60, hparts (by omega)]
            simp only [Option.bind_some, List.length_map]
            rw [hlc, if_pos rfl, if_pos (by omega), r2, read_eq _ k (by omega)]
            simp only [Option.bind_some]
            rw [if_pos (by omega), r3]
            obtain ⟨bq, okb, e⟩ := read_some k (Text.ofL u3) (by omega)
            rw [e]
            simp only [Option.bind_some]
            rw [if_pos (by omega), if_pos (by omega), r0, r1]
            by_cases c1 : (readM (Text.ofL u2)).2 = true
            · rw [if_pos c1]
              by_cases c2 : okb = true
              · rw [if_pos c2, spec_ok_eq _ _ _ bq z0 z1 k (by omega) (by omega)]
                simp only [Option.bind_some]
                by_cases c3 : okF (Text.ofL u0) (Text.ofL u1) (readM (Text.ofL u2)).1 bq = true
                · exfalso
                  obtain ⟨n1, n2, v0, t0⟩ := okF_iff.1 c3
                  have m1 := readM_ok (s := Text.ofL u2) (v := (readM (Text.ofL u2)).1) (Prod.ext rfl c1)
                  rw [milli_bytes _ v0.1 v0.2] at m1
                  have m2 := read_ok k (Text.ofL u3) bq (by omega) (by rw [e, c2]) t0.1 t0.2
                  refine nol (readM (Text.ofL u2)).1 bq c3 ?_
                  have q1 : milliL (readM (Text.ofL u2)).1 = u2 := by
                    have := congrArg (fun z : ByteArray => z.data.toList) m1
                    simpa [Text.ofL_data] using this
                  have q2 : Lib.itoa bq = u3 := by
                    have := congrArg (fun z : ByteArray => z.data.toList) m2
                    simpa [Text.ofL_data] using this.symm
                  unfold lineF
                  rw [if_pos c3, q1, q2, Text.ofL_data, Text.ofL_data]
                  simpa [joinC] using hjoin
                · rw [if_neg c3]
                  rfl
              · rw [if_neg c2]
                rfl
            · rw [if_neg c1]
              rfl
        · obtain ⟨v, ok, hv⟩ := implMilli_some (Text.ofL u2) (by rw [Text.ofL_size]; omega) k (by omega)
          unfold impl_ParseSample.f
          rw [hspl]
          simp only [Option.bind_some, List.length_map]
          rw [if_pos hb4, hlc, if_pos (by omega), r2, hv]
          simp only [Option.bind_some]
          rw [if_pos (by omega), if_pos (by omega), if_pos (by omega), r3, hat]
          simp only [Option.bind_some]
          rw [r0, r1, impl_ok_eq _ _ v _ z0 z1 k (by omega) (by omega)]
          simp only [Option.bind_some]
          by_cases c3 : okF (Text.ofL u0) (Text.ofL u1) v (atoiOf (Text.ofL u3)) = true
          · rw [if_pos c3, impl_line_eq _ _ v _ z0 z1 k (by omega) (by omega)]
            simp only [Option.bind_some]
            rw [if_neg (fun e => nol v (atoiOf (Text.ofL u3)) c3 (by rw [ByteArray.toList_eq, ByteArray.toList_eq, Text.ofL_data] at e; exact e))]
            rfl
          · rw [if_neg c3]
            rfl
  · have hread : readS s = none5 := by
      unfold readS
      rw [dif_neg]
      rintro ⟨⟨a, b, v, t⟩, h1, h2⟩
      have hc := line_cut a b v t h1
      rw [h2, hP] at hc
      rw [hc] at h4
      exact h4 rfl
    rw [hread]
    have hb4 : (((P.length : Nat) : Int) == 4) = false := beq_eq_false_iff_ne.2 (by omega)
    constructor
    · unfold spec_ParseSample.f
      by_cases h60 : (s.size : Int) > 60
      · rw [if_pos h60]
        rfl
      · rw [if_neg h60, hparts (by omega)]
        simp only [Option.bind_some, List.length_map]
        rw [if_neg (by omega)]
        rfl
    · unfold impl_ParseSample.f
      rw [hspl]
      simp only [Option.bind_some, List.length_map]
      rw [if_neg (by rw [hb4]; simp)]
      rfl

end Go.Proofs.YtbbnlagdahickaaGreatDoor.Pure
