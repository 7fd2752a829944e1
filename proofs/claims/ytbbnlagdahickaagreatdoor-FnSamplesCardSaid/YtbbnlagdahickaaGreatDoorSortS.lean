/- What the program's SortSamples computes: none beyond 300 samples, else the library's stable sort by the program's comparison. Conditions: the argument is a slice that reads as the list. -/
import Derived.Test.YtbbnlagdahickaaGreatDoorCmpS
import Derived.Test.YtbbnlagdahickaaGreatDoorSortX
import Derived.Shelf.SlSortCmp.InsertionK
import Derived.Lib.SliceRun
import Derived.Shelf.RegionOpenPlain
namespace Go.Proofs.YtbbnlagdahickaaGreatDoor.PFnSamples
open Go.RowKit Go.Proofs.YtbbnlagdahickaaGreatDoorW.PrintWords Go.Proofs.YtbbnlagdahickaaGreatDoorW.PrintLast Go.Proofs.YtbbnlagdahickaaGreatDoorW.PrintMore
open Go.Sort Go.Shelf Go.Proofs Go.Proofs.YtbbnlagdahickaaGreatDoor.Stable
set_option linter.unusedVariables false
instance : Inhabited S35 := ⟨z35⟩
/-- A sample's four cells. -/
def encS (x : S35) : List Value := [.string x.f0, .string x.f1, .int .i64 x.f2, .int .i64 x.f3]
def cmpI (a b : Int) : Int := if a < b then -1 else if b < a then 1 else 0
/-- How the program holds two samples against one another. -/
def cfS (x y : S35) : Int := if cmpB x.f0 y.f0 = 0 then (if cmpB x.f1 y.f1 = 0 then cmpI x.f3 y.f3 else cmpB x.f1 y.f1) else cmpB x.f0 y.f0
theorem or_eq (a b c : Int) : cmp_Or_int.f 10 [a, b, c] = some (if a = 0 then (if b = 0 then c else b) else a) := by
  have e1 : wrap64 (0 + 1) = 1 := by unfold wrap64; omega
  have e2 : wrap64 (1 + 1) = 2 := by unfold wrap64; omega
  have e3 : wrap64 (2 + 1) = 3 := by unfold wrap64; omega
  have r0 : rd [a, b, c] 0 = a := rfl
  have r1 : rd [a, b, c] 1 = b := rfl
  have r2 : rd [a, b, c] 2 = c := rfl
  unfold cmp_Or_int.f
  have hl : (([a, b, c] : List Int).length : Int) = 3 := rfl
  rw [cmp_Or_int.l0, hl, if_pos (by omega), if_pos (by omega), if_pos (by omega), r0, e1]
  by_cases ha : a = 0
  · rw [if_pos ha, if_pos ha, cmp_Or_int.l0, hl, if_pos (by omega), if_pos (by omega), if_pos (by omega), r1, e2]
    by_cases hb : b = 0
    · rw [if_pos hb, if_pos hb, cmp_Or_int.l0, hl, if_pos (by omega), if_pos (by omega), if_pos (by omega), r2, e3]
      by_cases hc : c = 0
      · rw [if_pos hc, cmp_Or_int.l0, if_neg (by omega), hc]
      · rw [if_neg hc]
    · rw [if_neg hb, if_neg hb]
  · rw [if_neg ha, if_neg ha]
theorem cmpI_eq (a b : Int) : cmp_Compare_int.f a b = some (cmpI a b) := by
  unfold cmp_Compare_int.f cmp_isNaN_int.f cmpI
  simp only [Option.bind_some, bne_self_eq_false]
  rw [if_neg (by simp), if_neg (by simp)]
  by_cases h : a < b
  · rw [if_pos h, if_pos h]
  · rw [if_neg h, if_neg h]
    by_cases g : b < a
    · rw [if_pos g, if_pos (by omega)]
    · rw [if_neg g, if_neg (by omega)]
theorem lit1_eq (x y : S35) : impl_SortSamples_lit1.f 10 x.f0 x.f1 x.f2 x.f3 y.f0 y.f1 y.f2 y.f3 = some (cfS x y) := by
  unfold impl_SortSamples_lit1.f cmp_Compare_string.f
  simp only [Option.bind_some, cmpI_eq, or_eq]
  rfl
theorem cmp_lays (blk off size : Nat) (w : World) : CmpLays Tryz.prog 23 #[] encS 4 cfS blk off size w := by
  intro m os dk hdk x y
  refine (impl_SortSamples_lit1.calls 10 x.f0 x.f1 x.f2 x.f3 y.f0 y.f1 y.f2 y.f3 (cfS x y) _ (lit1_eq x y)).mono ?_
  rintro e w' ⟨rfl, q, os', rfl⟩
  exact ⟨rfl, q, os', rfl⟩
/-- How the library's insertion sort is numbered in this program. -/
def ren20 : Ren := ⟨fun n => if n = 20 then 75 else 0, fun n => if n = 0 then 0 else if n = 3 then 3 else if n = 4 then 4 else if n = 22 then 24 else if n = 24 then 35 else if n = 25 then 47 else 0, fun n => n⟩
theorem ins_lay : SlLaysF0.n20 Tryz.prog ren20 where
  mixed := by kernel_rfl
  f20 := ⟨ "slices.insertionSortCmpFunc[loop.example/g00808/impl.Sample]", by decide, Tryz.func75⟩
  t0 := Tryz.underlying0
  a0 := Tryz.isAgg0
  z0 := Tryz.sizeOf0
  v0 := Tryz.zeroValue0
  t3 := Tryz.underlying3
  a3 := Tryz.isAgg3
  z3 := Tryz.sizeOf3
  v3 := Tryz.zeroValue3
  t4 := Tryz.underlying4
  a4 := Tryz.isAgg4
  z4 := Tryz.sizeOf4
  v4 := Tryz.zeroValue4
  t22 := Tryz.underlying24
  a22 := Tryz.isAgg24
  z22 := Tryz.sizeOf24
  v22 := Tryz.zeroValue24
  t25 := Tryz.underlying47
  a25 := Tryz.isAgg47
  z25 := Tryz.sizeOf47
  v25 := Tryz.zeroValue47
theorem encS_len (x : S35) : (encS x).length = 4 := rfl
theorem encS_one (x : S35) : ∀ v ∈ encS x, v.oneCell' = true := by
  intro v hv
  simp only [encS, List.mem_cons, List.not_mem_nil, or_false] at hv
  rcases hv with rfl | rfl | rfl | rfl <;> rfl
/-- slices.SortStableFunc with the program's comparison, at a row of samples. -/
theorem sort_row (g cap : Nat) (d : Array S35) (w : World) (hH : HoldsK encS 4 w g 0 d) (hg : g < w.heap.size) (hsz : d.size < 1000000000000) :
    Calls Tryz.prog 22 #[.slice (some ⟨g, 0, none⟩) d.size cap, .func (.func 23) #[] #[]] w fun e w' => e = .returned (.tuple #[]) ∧ SWK encS 4 w g 0 (stableA (ltOf cfS) d.size d) w' := by
  have eg : ∀ args w, (callFunc 23 args).run Tryz.prog w = .ok (.enter 23 args) w := enters_of Tryz.func23 (by kernel_rfl) rfl
  have R : RowK encS 4 w g 0 d := ⟨encS_len, encS_one, hH, hg⟩
  refine SortW.sortStable 4 SortW.sl encS cfS 23 #[] g 0 cap d w eg (cmp_lays g 0 d.size w) R hsz (enters_of Tryz.func75 (by kernel_rfl) rfl) ?_ d w rfl (SWK.start hH)
  intro dk a b W hs S hab hb
  have hC : CmpLays Tryz.prog 23 #[] encS 4 cfS g 0 dk.size W := cmp_lays g 0 dk.size W
  refine (AnyQ.insertionSortCmpFunc ins_lay 4 Tryz.isAgg35 Tryz.sizeOf35 encS encS_len encS_one cfS 23 #[] g 0 cap a b dk W eg hC (S.holds hg hH hs.symm) (S.lt hg) hab hb (by omega)).mono ?_
  rintro e w' ⟨rfl, n, os, rfl⟩
  exact ⟨rfl, S.on hg n _ os (SortW.ins_size _ _ _ _)⟩
/-- The cells of a list of samples, one behind the other. -/
def cellsS (l : List S35) : List Value := (flatK encS 4 l.toArray).toList
theorem cellsS_len (l : List S35) : (cellsS l).length = l.length * 4 := by simp [cellsS]
theorem cellsS_get (l : List S35) (t : Nat) (h : t < l.length * 4) : (cellsS l)[t]? = some ((encS (l.toArray[t / 4]!))[t % 4]!) := by
  have h1 := get_flatK encS 4 l.toArray t (by simpa using h)
  have h2 : t < (flatK encS 4 l.toArray).size := by simpa using h
  rw [getElem!_pos _ t h2] at h1
  unfold cellsS
  rw [List.getElem?_eq_getElem (by simpa using h), Array.getElem_toList, h1]
theorem cellsS_one (l : List S35) : ∀ u ∈ cellsS l, u.oneCell' = true := by
  intro u hu
  obtain ⟨t, ht, rfl⟩ := List.mem_iff_getElem.1 hu
  have h := cellsS_get l t (by rw [← cellsS_len]; exact ht)
  rw [List.getElem?_eq_getElem ht] at h
  rw [Option.some.inj h, getElem!_pos _ _ (by rw [encS_len]; omega)]
  exact encS_one _ _ (List.getElem_mem _)
theorem cellsS_at (l : List S35) (j : Nat) (p : S35) (h : l[j]? = some p) : ((cellsS l).drop (j * 4)).take 4 = encS p := by
  obtain ⟨hj, rfl⟩ := List.getElem?_eq_some_iff.1 h
  apply List.ext_getElem?
  intro i
  by_cases hi : i < 4
  · rw [List.getElem?_take_of_lt hi, List.getElem?_drop, cellsS_get l (j * 4 + i) (by omega)]
    have e1 : (j * 4 + i) / 4 = j := by omega
    have e2 : (j * 4 + i) % 4 = i := by omega
    have e3 : l.toArray[j]! = l[j] := by rw [getElem!_pos l.toArray j (by simpa using hj)]; simp
    rw [e1, e2, e3, getElem!_pos _ _ (by rw [encS_len]; exact hi), List.getElem?_eq_getElem (by rw [encS_len]; exact hi)]
  · rw [List.getElem?_eq_none (by simp; omega), List.getElem?_eq_none (by rw [encS_len]; omega)]
/-- A row of samples of the call's own, told by its cells. -/
theorem own_cells {w : World} {base : Nat} {v : Value} {l : List S35} (h : w.ownsRow base 35 4 v l.length (cellsS l)) : Kd.R k35 35 w base (fun _ => True) v l :=
  ⟨fun _ _ => trivial, cellsS l, h, ⟨cellsS_len l, fun j p hj => by
    show k35.M w base _ p (((cellsS l).drop (j * 4)).take 4)
    rw [cellsS_at l j p hj]
    exact k35_mkM w base _ p⟩⟩
set_option maxHeartbeats 2000000 in
set_option maxRecDepth 100000 in
/-- slices.Clone at a slice of samples that reads as l. -/
theorem clone_some (ad : Addr) (c0 : Nat) (l : List S35) (w : World) (hl : l.length ≤ 300) (hr : ∀ j u, (cellsS l)[j]? = some u → w.cell? (ad.add j) = some u) :
    Calls Tryz.prog 21 #[.slice (some ad) l.length c0] w fun e w' => ∃ v', e = .returned v' ∧ w'.ownsRow w.heap.size 35 4 v' l.length (cellsS l) ∧ Below w.heap.size w w' := by
  obtain ⟨i0, hi, hzz⟩ := Option.map_eq_some_iff.1 info35
  simp only [Prod.mk.injEq] at hzz
  obtain ⟨hz0, hz1, hz2⟩ := hzz
  have q22 : ∀ (w : World) (a : Option Addr) (n c n' c' : Nat), (binOp .eql 24 (.slice a n c) (.slice none n' c')).run Tryz.prog w = .ok (.bool a.isNone) w := fun w a n c n' c' => Lib.run_eql_slice_nil w _ _ a n c n' c' Tryz.underlying24
  have A : Aside (∀ j u, (cellsS l)[j]? = some u → w.cell? (ad.add j) = some u) := hr
  have B : Hid (Tryz.prog.info? 35 = some i0) := hi
  clear hr hi
  generalize hn : l.length = n at *
  have hlen : (cellsS l).length = n * 4 := by rw [cellsS_len, hn]
  have h1 := cellsS_one l
  have HN : Hid (l.length = n) := hn
  clear hn
  generalize cellsS l = news at *
  go_enter Tryz.func21, Tryz.ntmps21
  go_wp2_with (at_builtin; refine wpList_append_own _ rfl _ _ 24 rfl w.heap.size 35 i0 (.agg #[(.string ⟨#[]⟩), (.string ⟨#[]⟩), (.int .i64 0), (.int .i64 0)]) 4 48 Tryz.underlying24 B.out hz0 hz1 hz2 rfl (by decide) _ _ _ rfl (World.ownsRow_made w #[] 0 (Nat.le_refl _) (Nat.zero_le _) (by simp)) ad n c0 news rfl ?qc1 ?qc2 ?qc3 ?qc4 ?qc5 ?qc6 ?_)
  case qc1 => exact hlen
  case qc2 =>
    intro j u hj
    exact Lib.cell?_alloc_some _ (A.out j u hj)
  case qc3 => exact h1
  case qc4 => simp only [maxLen]; omega
  case qc5 => omega
  case qc6 => simp
  intro v' w1 hown hgrow hnil
  go_wp2
  go_ret
  refine ⟨v', rfl, by simpa using hown, ?_⟩
  exact ((Below.refl _ w).alloc (Nat.le_refl _) _).grown hgrow (by simp) (by intro k hk; simp [Value.ownBlock] at hk; omega)
set_option maxHeartbeats 1000000 in
theorem clone_none (n c : Nat) (w : World) : Calls Tryz.prog 21 #[.slice none n c] w fun e w' => e = .returned (.slice none 0 0) ∧ w' = w := by
  have q22 : ∀ (w : World) (a : Option Addr) (n c n' c' : Nat), (binOp .eql 24 (.slice a n c) (.slice none n' c')).run Tryz.prog w = .ok (.bool a.isNone) w := fun w a n c n' c' => Lib.run_eql_slice_nil w _ _ a n c n' c' Tryz.underlying24
  go_enter Tryz.func21, Tryz.ntmps21
  go_wp2
  go_ret
  exact ⟨rfl, rfl⟩
set_option maxHeartbeats 2000000 in
theorem ins_none (p : Option Addr) (c : Nat) (w : World) : Calls Tryz.prog 75 #[.slice p 0 c, .int .i64 0, .int .i64 0, .func (.func 23) #[] #[]] w fun e w' => e = .returned (.tuple #[]) ∧ w' = w := by
  go_enter Tryz.func75, Tryz.ntmps75
  go_wp2
  refine wp_loop_rounds 1 ?_
  rw [rounds_succ]
  go_wp2
  go_end0
  exact ⟨rfl, rfl⟩
set_option maxHeartbeats 2000000 in
theorem stable_none (p : Option Addr) (c : Nat) (w : World) : Calls Tryz.prog 53 #[.slice p 0 c, .int .i64 0, .func (.func 23) #[] #[]] w fun e w' => e = .returned (.tuple #[]) ∧ w' = w := by
  go_enter Tryz.func53, Tryz.ntmps53
  go_wp2
  refine wp_loop_rounds 1 ?_
  rw [rounds_succ]
  go_wp2_with (go_at_call 75; refine (ins_none p c _).mono ?_; rintro e w' ⟨rfl, rfl⟩)
  refine wp_loop_rounds 1 ?_
  rw [rounds_succ]
  go_wp2
  go_end0
  exact ⟨rfl, rfl⟩
theorem sort_none (p : Option Addr) (c : Nat) (w : World) : Calls Tryz.prog 22 #[.slice p 0 c, .func (.func 23) #[] #[]] w fun e w' => e = .returned (.tuple #[]) ∧ w' = w := by
  go_enter Tryz.func22, Tryz.ntmps22
  go_wp2_with (go_at_call 53; refine (stable_none p c _).mono ?_; rintro e w' ⟨rfl, rfl⟩)
  go_end0
  exact ⟨rfl, rfl⟩
/-- A row of the call's own, sorted: the slice owns the sorted list. -/
theorem sort_own (w : World) (base : Nat) (v : Value) (l : List S35) (hl : l.length ≤ 300) (hb : base ≤ w.heap.size) (h : w.ownsRow base 35 4 v l.length (cellsS l)) :
    Calls Tryz.prog 22 #[v, .func (.func 23) #[] #[]] w fun e w' => e = .returned (.tuple #[]) ∧ w'.ownsRow base 35 4 v l.length (cellsS (stableA (ltOf cfS) l.length l.toArray).toList) ∧ Below base w w' := by
  rcases h.2 with ⟨rfl, h0⟩ | ⟨g, cap, cur, rfl, hbase, hheap, h1, h2, h3, h4⟩
  · refine (sort_none none 0 w).mono ?_
    rintro e w' ⟨rfl, rfl⟩
    refine ⟨rfl, ?_, Below.refl _ _⟩
    obtain rfl := List.length_eq_zero_iff.1 h0
    have e : (stableA (ltOf cfS) ([] : List S35).length ([] : List S35).toArray).toList = [] := by
      have := SortW.stableA_size (ltOf cfS) ([] : List S35).length ([] : List S35).toArray
      exact List.length_eq_zero_iff.1 (by simpa using this)
    rw [e]
    exact h
  · have hg : g < w.heap.size := (Array.getElem?_eq_some_iff.1 hheap).1
    have hH : HoldsK encS 4 w g 0 l.toArray := by
      intro j hj
      have hj' : j < l.length * 4 := by simpa using hj
      refine ⟨?_, by simp [World.frozen?, hheap]⟩
      have e1 : (cur.toList.take (l.length * 4))[j]? = (cellsS l)[j]? := by rw [h4]
      rw [List.getElem?_take_of_lt hj'] at e1
      simp only [World.cell?, hheap, Nat.zero_add, Option.isSome_none, Bool.false_eq_true, if_false]
      rw [← Array.getElem?_toList, e1]
      unfold cellsS
      rw [List.getElem?_eq_getElem (by simpa using hj'), getElem!_pos _ j hj, Array.getElem_toList]
      rfl
    have hs : l.toArray.size = l.length := by simp
    have hsort := sort_row g cap l.toArray w hH hg (by omega)
    rw [hs] at hsort
    refine hsort.mono ?_
    rintro e w' ⟨rfl, n, os, rfl⟩
    obtain ⟨d, hd⟩ : ∃ d, d = stableA (ltOf cfS) l.length l.toArray := ⟨_, rfl⟩
    have hsz : d.size = l.length := by rw [hd, SortW.stableA_size, hs]
    rw [← hd]
    have hF : (flatK encS 4 d).size = l.length * 4 := by rw [size_flatK, hsz]
    have hheap2 : (sortWorldK encS 4 w g 0 n d os).heap[g]? = some (.cells (putCells id 0 (flatK encS 4 d) cur) 35 (0, 0)) := by
      unfold sortWorldK
      rw [heap_grow_old _ _ (by rw [size_putRowK]; exact hg)]
      simp [putRowK, putRow, mapBlock, Sort.ahead, Array.getElem?_modify, hheap, onCells]
    refine ⟨rfl, ⟨?_, .inr ⟨g, cap, _, rfl, hbase, hheap2, h1, h2, by simp [putCells, h3], ?_⟩⟩, ?_⟩
    · rw [cellsS_len, Array.length_toList, hsz]
    · unfold cellsS
      apply List.ext_getElem?
      intro j
      by_cases hj : j < l.length * 4
      · have hjc : j < cur.size := by rw [h3]; have := Nat.mul_le_mul_right 4 h1; omega
        rw [List.getElem?_take_of_lt hj, Array.getElem?_toList]
        have hjF : j < (flatK encS 4 d).size := by rw [hF]; exact hj
        rw [Array.toArray_toList, Array.getElem?_toList, Array.getElem?_eq_getElem hjF]
        simp only [putCells, Array.getElem?_mapIdx, Array.getElem?_eq_getElem hjc, Option.map_some, Nat.zero_le, true_and, Nat.zero_add, Nat.sub_zero, id]
        rw [if_pos hjF, getElem!_pos (flatK encS 4 d) j hjF]
      · rw [List.getElem?_eq_none (by simp; omega), List.getElem?_eq_none (by rw [Array.toArray_toList, Array.length_toList, hF]; omega)]
    · refine ⟨rfl, rfl, rfl, ?_, fun k hk => ?_⟩
      · unfold sortWorldK
        rw [size_grow, size_putRowK]
        exact Nat.le_add_right _ _
      · have hk2 : k < w.heap.size := by omega
        have hne : g ≠ k := by omega
        unfold sortWorldK
        rw [heap_grow_old _ _ (by rw [size_putRowK]; exact hk2)]
        simp [putRowK, putRow, mapBlock, Sort.ahead, Array.getElem?_modify, hne]
/-- What the program's SortSamples answers. -/
def sortedS (l : List S35) : List S35 := if 300 < l.length then [] else (stableA (ltOf cfS) l.length l.toArray).toList
set_option maxHeartbeats 2000000 in
theorem sort_long (A0 : Option Addr) (c0 n : Nat) (w : World) (h : 300 < n) : Calls Tryz.prog 8 #[.slice A0 n c0] w fun e w' => e = .returned (.slice none 0 0) ∧ w' = w := by
  have hz : (300 : Int) < (n : Int) := by omega
  go_enter Tryz.func8, Tryz.ntmps8
  go_wp2
  go_ret
  exact ⟨rfl, rfl⟩
set_option maxHeartbeats 2000000 in
theorem sort_calls (A0 : Option Addr) (c0 : Nat) (l0 : List S35) (w : World) (hr0 : Kd.C k35 w A0 l0.length l0) :
    Calls Tryz.prog 8 #[.slice A0 l0.length c0] w fun e w' => ∃ v0_ : Value, e = .returned (v0_) ∧ Kd.R k35 35 w' w.heap.size (fun _ => True) v0_ (sortedS l0) ∧ Below w.heap.size w w' := by
  by_cases hl : 300 < l0.length
  · refine (sort_long A0 c0 l0.length w hl).mono ?_
    rintro e w' ⟨rfl, rfl⟩
    unfold sortedS
    rw [if_pos hl]
    exact ⟨_, rfl, Kd.R_nil _ _ _ _ _, Below.refl _ _⟩
  · have hsl : sortedS l0 = (stableA (ltOf cfS) l0.length l0.toArray).toList := by unfold sortedS; rw [if_neg hl]
    have hcl : Calls Tryz.prog 21 #[.slice A0 l0.length c0] w fun e w' => ∃ v', e = .returned v' ∧ w'.ownsRow w.heap.size 35 4 v' l0.length (cellsS l0) ∧ Below w.heap.size w w' := by
      cases A0 with
      | none =>
        refine (clone_none l0.length c0 w).mono ?_
        rintro e w' ⟨rfl, rfl⟩
        have h0 : l0.length = 0 := by
          rcases Nat.eq_zero_or_pos l0.length with h | h
          · exact h
          · obtain ⟨ad, h1, _⟩ := hr0.2.2 h
            cases h1
        obtain rfl := List.length_eq_zero_iff.1 h0
        exact ⟨_, rfl, ⟨cellsS_len [], .inl ⟨rfl, rfl⟩⟩, Below.refl _ _⟩
      | some ad =>
        refine clone_some ad c0 l0 w (by omega) fun j u hj => ?_
        have hjl : j < l0.length * 4 := by
          have := (List.getElem?_eq_some_iff.1 hj).1
          rwa [cellsS_len] at this
        obtain ⟨ad', h1, h2⟩ := hr0.2.2 (by omega)
        cases h1
        have hq : j / 4 < l0.length := by omega
        obtain ⟨c, hc, hK, hcell⟩ := h2 (j / 4) _ (List.getElem?_eq_getElem hq)
        obtain rfl := k35_open hK
        have := hcell (j % 4) u (by
          rw [cellsS_get l0 j hjl] at hj
          rw [← hj, getElem!_pos l0.toArray (j / 4) (by simpa using hq)]
          have e : (encS l0.toArray[j / 4]).length = 4 := rfl
          rw [getElem!_pos _ (j % 4) (by omega), List.getElem?_eq_getElem (by show j % 4 < 4; omega)]
          rfl)
        have e4 : j / 4 * k35.sz + j % 4 = j := by
          have : k35.sz = 4 := rfl
          rw [this]
          omega
        rw [e4] at this
        exact this
    have hlz : ¬ (300 : Int) < (l0.length : Int) := by omega
    have so := fun (W : World) (v : Value) (hb : Below w.heap.size w W) (ho : W.ownsRow w.heap.size 35 4 v l0.length (cellsS l0)) => sort_own W w.heap.size v l0 (by omega) hb.size ho
    rw [hsl]
    clear hsl hr0
    generalize hL : (stableA (ltOf cfS) l0.length l0.toArray).toList = L at so ⊢
    have hLl : L.length = l0.length := by rw [← hL, Array.length_toList, SortW.stableA_size]; simp
    have HL : Hid (L.length = l0.length) := hLl
    clear hLl hL
    generalize l0.length = n at *
    generalize cellsS l0 = cs at *
    go_enter Tryz.func8, Tryz.ntmps8
    go_wp2_with (go_at_call 21; refine hcl.mono ?_; rintro e W1 ⟨v1, rfl, ho, hb⟩)
    have O1 : Aside _ := ho
    have B1 : Aside (Below w.heap.size w W1) := hb
    clear ho hb hcl
    go_wp2_with (go_at_call 22; refine (so _ _ B1.out O1.out).mono ?_; rintro e W2 ⟨rfl, ho2, hb2⟩)
    go_ret
    exact ⟨_, rfl, own_cells (by rw [HL.out]; exact ho2), B1.out.trans hb2⟩
end Go.Proofs.YtbbnlagdahickaaGreatDoor.PFnSamples
