/- What the Go functions impl.GoalLine, strings.Split, impl.split, impl.atoi, impl.ParseMilli compute, as Lean functions, and the proof that each call comes to just that. Conditions: those at each theorem. -/
import Derived.Test.YtbbnlagdahickaaDoorOFnExactParseGoalx0
import Derived.Test.YtbbnlagdahickaaDoorOFnExactParseGoalx4
namespace Go.Proofs.YtbbnlagdahickaaDoor.PFnExactParseGoal
open Go.RowKit Go.Proofs.YtbbnlagdahickaaDoorW.PrintWords Go.Proofs.YtbbnlagdahickaaDoorW.PrintLast Go.Proofs.YtbbnlagdahickaaDoorW.PrintMore
attribute [local go_sem] max2_int min2_int max_two min_two max_three min_three max_four min_four   -- for this text's walks alone
set_option linter.unusedVariables false
set_option linter.unusedSimpArgs false

/-! ### impl_GoalLine: function 18 -/
def impl_GoalLine.f (k : Nat) (a0_0 : ByteArray) (a0_1 : Int) (a0_2 : Int) : Option (ByteArray) := (impl_GoalOk.f k a0_0 a0_1 a0_2).bind fun t164 => (if t164 = true then ((impl_MilliText.f k a0_1).bind fun t165 => ((impl_number.f a0_2).bind fun t166 => ((impl_words.f (([a0_0, t165, t166] : List ByteArray))).bind fun t170 => (some t170)))) else (some (⟨#[]⟩ : ByteArray)))
theorem impl_GoalLine.mono : ∀ a0 a1 a2 k, LeO (impl_GoalLine.f k a0 a1 a2) (impl_GoalLine.f (k + 1) a0 a1 a2) := by
  intro a0 a1 a2 k
  unfold impl_GoalLine.f
  repeat' first
      | (with_reducible exact impl_GoalOk.mono _ _ _ _)
      | (with_reducible exact impl_MilliText.mono _ _)
      | (with_reducible exact LeO.refl _)
      | (with_reducible exact LeO.none _)
      | (with_reducible refine LeO.ite ?_ ?_)
      | (with_reducible refine LeO.bind ?_ (fun _ => ?_))
      | exact impl_GoalOk.mono _ _ _ _
      | exact impl_MilliText.mono _ _
      | exact LeO.none _
      | refine LeO.ite ?_ ?_
      | refine LeO.bind ?_ (fun _ => ?_)
def impl_GoalLine.T3 : Bool × List (List Nat × List Nat) := (true, [([], []), ([0], [0]), ([], []), ([2], [2]), ([3], [3]), ([], []), ([5], [5]), ([6, 4], [6]), ([1, 4, 7], [1, 4, 7]), ([8, 7], [8]), ([9, 9, 0, 1, 2, 3, 4, 5, 6, 7, 8, 9], [9])])
def impl_GoalLine.B3 : List Nat := [0, 1, 0, 4, 12, 0, 32, 124, 255, 511, 1023]
theorem impl_GoalLine.tab3 : rtab .any (opsOf Tryd.f18 3) = impl_GoalLine.T3 := by kernel_rfl
theorem impl_GoalLine.bits3 : waitsOk impl_GoalLine.T3.2 impl_GoalLine.B3 = true := by kernel_rfl
set_option maxHeartbeats 8000000 in
set_option maxRecDepth 100000 in
theorem impl_GoalLine.calls (k : Nat) (a0_0 : ByteArray) (a0_1 : Int) (a0_2 : Int) (r : ByteArray) (w : World) (HT0 : LayB w) (h : impl_GoalLine.f k a0_0 a0_1 a0_2 = some r) :
    Calls Tryd.prog 18 #[.agg #[.string a0_0, .int .i64 a0_1, .int .i64 a0_2]] w fun e w' => e = .returned (.string r) ∧ Below w.heap.size w w' := by
  have HT := Aside0.mk HT0
  clear HT0
  have hu37 := Tryd.underlying37
  have HB := Aside0.mk (Below.refl w.heap.size w)
  have H : ((impl_GoalOk.f k a0_0 a0_1 a0_2).bind fun t164 => (if t164 = true then ((impl_MilliText.f k a0_1).bind fun t165 => ((impl_number.f a0_2).bind fun t166 => ((impl_words.f (([a0_0, t165, t166] : List ByteArray))).bind fun t170 => (some t170)))) else (some (⟨#[]⟩ : ByteArray)))) = some r := h
  clear h
  replace H := Option.bind_eq_some_iff.mp H
  obtain ⟨t164, A20, H⟩ := H
  replace H : (if t164 = true then ((impl_MilliText.f k a0_1).bind fun t165 => ((impl_number.f a0_2).bind fun t166 => ((impl_words.f (([a0_0, t165, t166] : List ByteArray))).bind fun t170 => (some t170)))) else (some (⟨#[]⟩ : ByteArray))) = some r := H
  have A2 := Aside0.mk A20
  clear A20
  by_cases c3 : t164 = true
  · subst c3
    have H1 : ((impl_MilliText.f k a0_1).bind fun t165 => ((impl_number.f a0_2).bind fun t166 => ((impl_words.f (([a0_0, t165, t166] : List ByteArray))).bind fun t170 => (some t170)))) = some r := by rw [if_pos rfl] at H; exact H
    clear H
    have H := H1
    clear H1
    replace H := Option.bind_eq_some_iff.mp H
    obtain ⟨t165, A40, H⟩ := H
    replace H : ((impl_number.f a0_2).bind fun t166 => ((impl_words.f (([a0_0, t165, t166] : List ByteArray))).bind fun t170 => (some t170))) = some r := H
    have A4 := Aside0.mk A40
    clear A40
    replace H := Option.bind_eq_some_iff.mp H
    obtain ⟨t166, A50, H⟩ := H
    replace H : ((impl_words.f (([a0_0, t165, t166] : List ByteArray))).bind fun t170 => (some t170)) = some r := H
    have A5 := Aside0.mk A50
    clear A50
    obtain ⟨y167, hy167⟩ : ∃ y_ : List ByteArray, y_ = (([a0_0, t165, t166] : List ByteArray)) := ⟨_, rfl⟩
    replace H : ((impl_words.f y167).bind fun t170 => (some t170)) = some r := by first | (rw [hy167]; with_reducible exact H) | (have H2_ := (Option.bind_some _ _).symm.trans H; rw [hy167]; with_reducible exact H2_) | (have H2_ := (Option.bind_some _ _).symm.trans H; with_reducible exact H2_) | with_reducible exact H | (rw [hy167]; exact H) | exact H
    have Ny167 := Aside0.mk hy167
    clear hy167
    replace H := Option.bind_eq_some_iff.mp H
    obtain ⟨t170, A60, H⟩ := H
    replace H : (some t170) = some r := H
    have A6 := Aside0.mk A60
    clear A60
    obtain rfl := Option.some.inj H
    go_enter Tryd.func18, Tryd.ntmps18
    try go_wp2_with (first | ((with_reducible refine gate_dst (N := 1) rfl ?_); refine box_event ?hg (N := 1) ?hd (cs := #[.string a0_0, .int .i64 a0_1, .int .i64 a0_2]) (t := 37) ?hr ?_; (case hd => rfl); (case hg => rfl); (case hr => first | (go_simp; done) | (go_simp; rfl)); intro gb163 hg w7 hbox hb; have n0_ := Aside0.mk (below_step (by repeat (first | (with_reducible first | exact HB.out | apply below_alloc | apply pw_below_drewN | apply below_drew1) | exact HB.out)) hb); have n1_ := Aside0.mk (hbox); have n2_ := Aside0.mk ((by rw [hg]; exact (below_size (by repeat (first | (with_reducible first | exact HB.out | apply below_alloc | apply pw_below_drewN | apply below_drew1) | exact HB.out))) : w.heap.size ≤ gb163)); have n3_ := Aside0.mk ((by rw [hg]; exact (below_size (by repeat (first | (with_reducible first | exact HB.out | apply below_alloc | apply pw_below_drewN | apply below_drew1) | exact HB.out))) : w.heap.size ≤ gb163)); clear HB; have HB := n0_; have BK163 := n1_; have GW163 := n2_; have GE163 := n3_; clear n0_ n1_ n2_ n3_; clear hb hbox hg; have hcz8_0 : w7.cell? ⟨gb163, 0, none⟩ = some (.string a0_0) := (blk_cell BK163.out 0).trans rfl; have hcz8_1 : w7.cell? ⟨gb163, 1, none⟩ = some (.int .i64 a0_1) := (blk_cell BK163.out 1).trans rfl; have hcz8_2 : w7.cell? ⟨gb163, 2, none⟩ = some (.int .i64 a0_2) := (blk_cell BK163.out 2).trans rfl; have hfz8_0 := blk_frozen BK163.out 0; have hfz8_1 := blk_frozen BK163.out 1; have hfz8_2 := blk_frozen BK163.out 2) | ((with_reducible refine gate_callee (f := 35) rfl ?_); refine goesL_ (some 4) rfl rfl Tryd.func35 (by kernel_rfl) rfl #[.agg #[.string a0_0, .int .i64 a0_1, .int .i64 a0_2]] rfl (by (try simp only [List.map_toArray, List.map_cons, List.map_nil]); first | done | rfl | (simp only [List.length_drop, List.length_take]; rfl)) ?_; (with_reducible refine (impl_GoalOk.calls k a0_0 a0_1 a0_2 true _ A2.out).mono ?_); rintro e w9 ⟨rfl, hb⟩; refine ⟨_, rfl, ?_⟩; have n0_ := Aside0.mk (blk_below (g := gb163) (o := .cells #[.string a0_0, .int .i64 a0_1, .int .i64 a0_2] 37 (0, 0)) (by (with_reducible repeat (first | refine blk_drewN ?_ _ | refine blk_drew ?_ | refine blk_alloc ?_ _)); exact BK163.out) hb); have n1_ := Aside0.mk (below_step (by repeat (first | (with_reducible first | exact HB.out | apply below_alloc | apply pw_below_drewN | apply below_drew1 | refine below_set ?_ GE163.out) | exact HB.out)) hb); clear BK163; clear HB; have BK163 := n0_; have HB := n1_; clear n0_ n1_; (try clear hb); (try clear hb2); (try clear hk); (try clear hi)))
    have n0_ := Aside0.mk (blk_drew BK163.out)
    have n1_ := Aside0.mk (below_drew1 HB.out)
    clear BK163
    clear HB
    have BK163 := n0_
    have HB := n1_
    clear n0_ n1_
    refine start_ (n := 11) (S := fun w' => w'.cell? ⟨gb163, 0, none⟩ = some (.string a0_0) ∧ w'.cell? ⟨gb163, 1, none⟩ = some (.int .i64 a0_1) ∧ w'.cell? ⟨gb163, 2, none⟩ = some (.int .i64 a0_2)) (ds := []) #[false, false, false, false, false, false, false, false, false, false, false] (by kernel_rfl) rfl rfl ⟨(blk_cell BK163.out 0).trans rfl, (blk_cell BK163.out 1).trans rfl, (blk_cell BK163.out 2).trans rfl⟩ (fun hHeld => ?_); refine with_tabW impl_GoalLine.tab3 impl_GoalLine.bits3 (fun HT_ HW_ => ?_)
    generalize w9.drew = w10 at BK163 HB hHeld ⊢
    refine pure_ (i := 0) (N := some 6) (v := ?_) (a' := ?_) #[true, false, false, false, false, false, false, false, false, false, false] rfl rfl (any_of HT_.out (by kernel_rfl)) (fun _ _ _ h => h) (Or.inl ⟨by rfl, ?_⟩) ?_ ?_
    rotate_left
    · intro w'
      go_simp
      with_reducible rfl
    rotate_left
    · simp only [Act.put, List.setIfInBounds_toArray, List.set_cons_zero, List.set_cons_succ, i64_w, i32_w]
      rfl
    refine pure_ (i := 2) (N := some 8) (v := ?_) (a' := ?_) #[true, false, true, false, false, false, false, false, false, false, false] rfl rfl (any_of HT_.out (by kernel_rfl)) (fun _ _ _ h => h) (Or.inl ⟨by rfl, ?_⟩) ?_ ?_
    rotate_left
    · intro w'
      go_simp
      with_reducible rfl
    rotate_left
    · simp only [Act.put, List.setIfInBounds_toArray, List.set_cons_zero, List.set_cons_succ, i64_w, i32_w]
      rfl
    refine pure_ (i := 5) (N := some 11) (v := ?_) (a' := ?_) #[true, false, true, false, false, true, false, false, false, false, false] rfl rfl (any_of HT_.out (by kernel_rfl)) (fun _ _ _ h => h) (Or.inl ⟨by rfl, ?_⟩) ?_ ?_
    rotate_left
    · intro w'
      go_simp
      with_reducible rfl
    rotate_left
    · simp only [Act.put, List.setIfInBounds_toArray, List.set_cons_zero, List.set_cons_succ, i64_w, i32_w]
      rfl
    refine take_ (i := 1) (N := some 7) (v := ?_) (a' := ?_) #[true, true, true, false, false, true, false, false, false, false, false] rfl rfl (take_ofW HT_.out HW_.out (by kernel_rfl)) (fun _ _ _ h => h) (Or.inl ⟨by rfl, ?_⟩) hHeld ?_ ?_
    rotate_left
    · rintro w' ⟨s0, s1, s2⟩
      go_simp
      with_reducible rfl
    rotate_left
    · simp only [Act.put, List.setIfInBounds_toArray, List.set_cons_zero, List.set_cons_succ, i64_w, i32_w]
      rfl
    refine take_ (i := 3) (N := some 9) (v := ?_) (a' := ?_) #[true, true, true, true, false, true, false, false, false, false, false] rfl rfl (take_ofW HT_.out HW_.out (by kernel_rfl)) (fun _ _ _ h => h) (Or.inl ⟨by rfl, ?_⟩) hHeld ?_ ?_
    rotate_left
    · rintro w' ⟨s0, s1, s2⟩
      go_simp
      with_reducible rfl
    rotate_left
    · simp only [Act.put, List.setIfInBounds_toArray, List.set_cons_zero, List.set_cons_succ, i64_w, i32_w]
      rfl
    refine take_ (i := 6) (N := some 12) (v := ?_) (a' := ?_) #[true, true, true, true, false, true, true, false, false, false, false] rfl rfl (take_ofW HT_.out HW_.out (by kernel_rfl)) (fun _ _ _ h => h) (Or.inl ⟨by rfl, ?_⟩) hHeld ?_ ?_
    rotate_left
    · rintro w' ⟨s0, s1, s2⟩
      go_simp
      with_reducible rfl
    rotate_left
    · simp only [Act.put, List.setIfInBounds_toArray, List.set_cons_zero, List.set_cons_succ, i64_w, i32_w]
      rfl
    refine one_ (i := 4) (N := some 10) #[true, true, true, true, true, true, true, false, false, false, false] rfl rfl (one_of HT_.out (by kernel_rfl)) (by decide) (fun K hK => ?_)
    refine goes_ Tryd.func36 (by kernel_rfl) rfl #[.int .i64 a0_1] (by rfl) rfl rfl (by (try simp only [List.map_toArray, List.map_cons, List.map_nil]); first | done | rfl | (simp only [List.length_drop, List.length_take]; rfl)) ?_
    with_reducible refine (impl_MilliText.calls k a0_1 t165 _ ?side_lay A4.out).mono ?_
    (case side_lay => exact LayB.up HT.out (by repeat (first | (with_reducible first | exact HB.out | apply below_alloc | apply pw_below_drewN | apply below_drew1 | refine below_set ?_ GE163.out) | exact HB.out)))
    rintro e w11 ⟨rfl, hb⟩
    refine ⟨_, rfl, ?_⟩
    have n0_ := Aside0.mk (blk_below (g := gb163) (o := .cells #[.string a0_0, .int .i64 a0_1, .int .i64 a0_2] 37 (0, 0)) (by (with_reducible repeat (first | refine blk_drewN ?_ _ | refine blk_drew ?_ | refine blk_alloc ?_ _)); exact BK163.out) hb)
    have n1_ := Aside0.mk (below_step (by repeat (first | (with_reducible first | exact HB.out | apply below_alloc | apply pw_below_drewN | apply below_drew1 | refine below_set ?_ GE163.out) | exact HB.out)) hb)
    clear BK163
    clear HB
    have BK163 := n0_
    have HB := n1_
    clear n0_ n1_
    (try clear hb)
    (try clear hb2)
    (try clear hk)
    (try clear hi)
    refine hK.out _ _ ⟨(blk_cell BK163.out 0).trans rfl, (blk_cell BK163.out 1).trans rfl, (blk_cell BK163.out 2).trans rfl⟩ (fun hHeld => ?_)
    clear hK K
    refine norm_ (a' := ?_) ?_ ?_
    rotate_left
    · show Act.put _ (some 10) _ = _
      simp only [Act.put, List.setIfInBounds_toArray, List.set_cons_zero, List.set_cons_succ, i64_w, i32_w]
      rfl
    refine one_ (i := 7) (N := some 13) #[true, true, true, true, true, true, true, true, false, false, false] rfl rfl (one_of HT_.out (by kernel_rfl)) (by decide) (fun K hK => ?_)
    refine goes_ Tryd.func29 (by kernel_rfl) rfl #[.int .i64 a0_2] (by rfl) rfl rfl (by (try simp only [List.map_toArray, List.map_cons, List.map_nil]); first | done | rfl | (simp only [List.length_drop, List.length_take]; rfl)) ?_
    with_reducible refine (impl_number.calls a0_2 t166 _ ?side_lay A5.out).mono ?_
    (case side_lay => exact LayB.up HT.out (by repeat (first | (with_reducible first | exact HB.out | apply below_alloc | apply pw_below_drewN | apply below_drew1 | refine below_set ?_ GE163.out) | exact HB.out)))
    rintro e w12 ⟨rfl, hb⟩
    refine ⟨_, rfl, ?_⟩
    have n0_ := Aside0.mk (blk_below (g := gb163) (o := .cells #[.string a0_0, .int .i64 a0_1, .int .i64 a0_2] 37 (0, 0)) (by (with_reducible repeat (first | refine blk_drewN ?_ _ | refine blk_drew ?_ | refine blk_alloc ?_ _)); exact BK163.out) hb)
    have n1_ := Aside0.mk (below_step (by repeat (first | (with_reducible first | exact HB.out | apply below_alloc | apply pw_below_drewN | apply below_drew1 | refine below_set ?_ GE163.out) | exact HB.out)) hb)
    clear BK163
    clear HB
    have BK163 := n0_
    have HB := n1_
    clear n0_ n1_
    (try clear hb)
    (try clear hb2)
    (try clear hk)
    (try clear hi)
    refine hK.out _ _ ⟨(blk_cell BK163.out 0).trans rfl, (blk_cell BK163.out 1).trans rfl, (blk_cell BK163.out 2).trans rfl⟩ (fun hHeld => ?_)
    clear hK K
    refine norm_ (a' := ?_) ?_ ?_
    rotate_left
    · show Act.put _ (some 13) _ = _
      simp only [Act.put, List.setIfInBounds_toArray, List.set_cons_zero, List.set_cons_succ, i64_w, i32_w]
      rfl
    refine one_ (i := 8) (N := some 14) #[true, true, true, true, true, true, true, true, true, false, false] rfl rfl (one_of HT_.out (by kernel_rfl)) (by decide) (fun K hK => ?_)
    refine Kd.R_lit_step Kd.string _ 9 ?hg (N := 14) ?hd (xs := ([a0_0, t165, t166] : List ByteArray)) (inner := [.string a0_0, .string t165, .string t166]) (ok := fun _ => True) (okp := fun _ => True) ?hr ?hp (fun _ hk => hk) trivial (Below.refl _ _) (Nat.le_refl _) (by simp) ?_; (case hd => rfl); (case hg => rfl); (case hr => first | (go_simp; done) | (go_simp; rfl)); (case hp => exact (Reps.one (show Kd.M Kd.string _ _ _ a0_0 [.string a0_0] from rfl) (Reps.one (show Kd.M Kd.string _ _ _ t165 [.string t165] from rfl) (Reps.one (show Kd.M Kd.string _ _ _ t166 [.string t166] from rfl) (Reps.none _ _)))))
    intro v168 w13 ho14 hb hg_ hnew_
    clear hg_ hnew_
    (first | rw [← Ny167.out] at ho14 | (simp only [Int.reduceToNat] at ho14; rw [← Ny167.out] at ho14))
    have n0_ := Aside0.mk (Kd.R_lower ho14 (below_size (by repeat (first | (with_reducible first | exact HB.out | apply below_alloc | apply pw_below_drewN | apply below_drew1 | refine below_set ?_ GE163.out) | exact HB.out))))
    have n1_ := Aside0.mk (blk_below (g := gb163) (o := .cells #[.string a0_0, .int .i64 a0_1, .int .i64 a0_2] 37 (0, 0)) (by (with_reducible repeat (first | refine blk_drewN ?_ _ | refine blk_drew ?_ | refine blk_alloc ?_ _)); exact BK163.out) hb)
    have n2_ := Aside0.mk (below_step (by repeat (first | (with_reducible first | exact HB.out | apply below_alloc | apply pw_below_drewN | apply below_drew1 | refine below_set ?_ GE163.out) | exact HB.out)) hb)
    clear BK163
    clear HB
    have HO169 := n0_
    have BK163 := n1_
    have HB := n2_
    clear n0_ n1_ n2_
    clear hb ho14
    obtain ⟨Ao15, co15, eo15⟩ := Kd.R_slice HO169.out
    (first | subst eo15 | (injection eo15 with f1_ f2_ f3_; have f4_ := f1_.symm; have f5_ := f3_.symm; clear f1_ f2_ f3_; subst f4_; subst f5_))
    refine hK.out _ _ ⟨(blk_cell BK163.out 0).trans rfl, (blk_cell BK163.out 1).trans rfl, (blk_cell BK163.out 2).trans rfl⟩ (fun hHeld => ?_)
    clear hK K
    refine norm_ (a' := ?_) ?_ ?_
    rotate_left
    · show Act.put _ (some 14) _ = _
      simp only [Act.put, List.setIfInBounds_toArray, List.set_cons_zero, List.set_cons_succ, i64_w, i32_w]
      rfl
    refine one_ (i := 9) (N := some 15) #[true, true, true, true, true, true, true, true, true, true, false] rfl rfl (one_of HT_.out (by kernel_rfl)) (by decide) (fun K hK => ?_)
    refine goes_ Tryd.func28 (by kernel_rfl) rfl #[.slice Ao15 y167.length co15] (by rfl) rfl rfl (by (try simp only [List.map_toArray, List.map_cons, List.map_nil]); first | done | rfl | (simp only [List.length_drop, List.length_take]; rfl)) ?_
    with_reducible refine (impl_words.calls _ _ y167 t170 _ ?side1 ?side2 A6.out).mono ?_
    (case side1 => repeat (first | exact (Kd.R_reads' HO169.out).2.2 | (with_reducible refine Kd.C_alloc ?_ _) | (with_reducible refine Kd.C_drewN ?_ _) | (with_reducible refine Kd.C_drew ?_)))
    (case side2 => exact (Kd.R_reads' HO169.out).2.1)
    rintro e w16 ⟨rfl, hb⟩
    refine ⟨_, rfl, ?_⟩
    have n0_ := Aside0.mk (Kd.R_below (by (with_reducible repeat (first | apply Kd.R_alloc | apply Kd.R_drewN | apply Kd.R_drew)); exact HO169.out) hb)
    have n1_ := Aside0.mk (blk_below (g := gb163) (o := .cells #[.string a0_0, .int .i64 a0_1, .int .i64 a0_2] 37 (0, 0)) (by (with_reducible repeat (first | refine blk_drewN ?_ _ | refine blk_drew ?_ | refine blk_alloc ?_ _)); exact BK163.out) hb)
    have n2_ := Aside0.mk (below_step (by repeat (first | (with_reducible first | exact HB.out | apply below_alloc | apply pw_below_drewN | apply below_drew1 | refine below_set ?_ GE163.out) | exact HB.out)) hb)
    clear HO169
    clear BK163
    clear HB
    have HO169 := n0_
    have BK163 := n1_
    have HB := n2_
    clear n0_ n1_ n2_
    (try clear hb)
    (try clear hb2)
    (try clear hk)
    (try clear hi)
    refine hK.out _ _ ⟨(blk_cell BK163.out 0).trans rfl, (blk_cell BK163.out 1).trans rfl, (blk_cell BK163.out 2).trans rfl⟩ (fun hHeld => ?_)
    clear hK K
    refine norm_ (a' := ?_) ?_ ?_
    rotate_left
    · show Act.put _ (some 15) _ = _
      simp only [Act.put, List.setIfInBounds_toArray, List.set_cons_zero, List.set_cons_succ, i64_w, i32_w]
      rfl
    refine pure_ (i := 10) (N := some 2) (v := ?_) (a' := ?_) #[true, true, true, true, true, true, true, true, true, true, true] rfl rfl (any_of HT_.out (by kernel_rfl)) (fun _ _ _ h => h) (Or.inl ⟨by rfl, ?_⟩) ?_ ?_
    rotate_left
    · intro w'
      go_simp
      with_reducible rfl
    rotate_left
    · simp only [Act.put, List.setIfInBounds_toArray, List.set_cons_zero, List.set_cons_succ, i64_w, i32_w]
      rfl
    refine done_ (done_of HT_.out (by kernel_rfl)) ?_
    try go_wp2
    go_ret
    exact ⟨by first | rfl | (simp [errW_none, errW_some] <;> rfl) | (simp [*, errW_none, errW_some] <;> rfl), by repeat (first | (with_reducible first | exact HB.out | apply below_alloc | apply pw_below_drewN | apply below_drew1 | refine below_set ?_ GE163.out) | exact HB.out)⟩
  · replace c3 := Bool.eq_false_iff.mpr c3
    subst c3
    have H1 : (some (⟨#[]⟩ : ByteArray)) = some r := by rw [if_neg (show ¬ (false = true) by decide)] at H; exact H
    clear H
    have H := H1
    clear H1
    obtain rfl := Option.some.inj H
    go_enter Tryd.func18, Tryd.ntmps18
    go_wp2_with (first | ((with_reducible refine gate_dst (N := 1) rfl ?_); refine box_event ?hg (N := 1) ?hd (cs := #[.string a0_0, .int .i64 a0_1, .int .i64 a0_2]) (t := 37) ?hr ?_; (case hd => rfl); (case hg => rfl); (case hr => first | (go_simp; done) | (go_simp; rfl)); intro gb163 hg w17 hbox hb; have n0_ := Aside0.mk (below_step (by repeat (first | (with_reducible first | exact HB.out | apply below_alloc | apply pw_below_drewN | apply below_drew1) | exact HB.out)) hb); have n1_ := Aside0.mk (hbox); have n2_ := Aside0.mk ((by rw [hg]; exact (below_size (by repeat (first | (with_reducible first | exact HB.out | apply below_alloc | apply pw_below_drewN | apply below_drew1) | exact HB.out))) : w.heap.size ≤ gb163)); have n3_ := Aside0.mk ((by rw [hg]; exact (below_size (by repeat (first | (with_reducible first | exact HB.out | apply below_alloc | apply pw_below_drewN | apply below_drew1) | exact HB.out))) : w.heap.size ≤ gb163)); clear HB; have HB := n0_; have BK163 := n1_; have GW163 := n2_; have GE163 := n3_; clear n0_ n1_ n2_ n3_; clear hb hbox hg; have hcz18_0 : w17.cell? ⟨gb163, 0, none⟩ = some (.string a0_0) := (blk_cell BK163.out 0).trans rfl; have hcz18_1 : w17.cell? ⟨gb163, 1, none⟩ = some (.int .i64 a0_1) := (blk_cell BK163.out 1).trans rfl; have hcz18_2 : w17.cell? ⟨gb163, 2, none⟩ = some (.int .i64 a0_2) := (blk_cell BK163.out 2).trans rfl; have hfz18_0 := blk_frozen BK163.out 0; have hfz18_1 := blk_frozen BK163.out 1; have hfz18_2 := blk_frozen BK163.out 2) | ((with_reducible refine gate_callee (f := 35) rfl ?_); refine goesL_ (some 4) rfl rfl Tryd.func35 (by kernel_rfl) rfl #[.agg #[.string a0_0, .int .i64 a0_1, .int .i64 a0_2]] rfl (by (try simp only [List.map_toArray, List.map_cons, List.map_nil]); first | done | rfl | (simp only [List.length_drop, List.length_take]; rfl)) ?_; (with_reducible refine (impl_GoalOk.calls k a0_0 a0_1 a0_2 false _ A2.out).mono ?_); rintro e w19 ⟨rfl, hb⟩; refine ⟨_, rfl, ?_⟩; have n0_ := Aside0.mk (blk_below (g := gb163) (o := .cells #[.string a0_0, .int .i64 a0_1, .int .i64 a0_2] 37 (0, 0)) (by (with_reducible repeat (first | refine blk_drewN ?_ _ | refine blk_drew ?_ | refine blk_alloc ?_ _)); exact BK163.out) hb); have n1_ := Aside0.mk (below_step (by repeat (first | (with_reducible first | exact HB.out | apply below_alloc | apply pw_below_drewN | apply below_drew1 | refine below_set ?_ GE163.out) | exact HB.out)) hb); clear BK163; clear HB; have BK163 := n0_; have HB := n1_; clear n0_ n1_; (try clear hb); (try clear hb2); (try clear hk); (try clear hi)))
    go_ret
    exact ⟨by first | rfl | (simp [errW_none, errW_some] <;> rfl) | (simp [*, errW_none, errW_some] <;> rfl), by repeat (first | (with_reducible first | exact HB.out | apply below_alloc | apply pw_below_drewN | apply below_drew1 | refine below_set ?_ GE163.out) | exact HB.out)⟩

/-! ### strings_Split: function 57 -/
def strings_Split.f (a0 : ByteArray) (a1 : ByteArray) : Option (List ByteArray) := if a0.size < 4294967281 then (if 1 ≤ a1.size then (some (Lib.splitB a1 0 (Lib.countB a0 a1) a0)) else (none)) else (none)
theorem strings_Split.calls (a0 : ByteArray) (a1 : ByteArray) (r : List ByteArray) (w : World) (HT0 : LayB w) (h : strings_Split.f a0 a1 = some r) :
    Calls Tryd.prog 57 #[.string a0, .string a1] w fun e w' => ∃ v0_ : Value, e = .returned (v0_) ∧ Kd.R Kd.string 9 w' w.heap.size (fun _ => True) v0_ r ∧ Below w.heap.size w w' := by
  unfold strings_Split.f at h
  by_cases h0 : a0.size < 4294967281
  · rw [if_pos h0] at h
    by_cases h1 : 1 ≤ a1.size
    · rw [if_pos h1] at h
      obtain rfl := Option.some.inj h
      exact LayB.split a0 a1 h0 h1 w HT0
    · rw [if_neg h1] at h
      exact absurd h (by simp)
  · rw [if_neg h0] at h
    exact absurd h (by simp)

/-! ### impl_split: function 39 -/
def impl_split.f (a0 : ByteArray) (a1 : Int) : Option (List ByteArray × Bool) := (strings_Split.f a0 (⟨#[32]⟩ : ByteArray)).bind fun t171 => (some (t171, ((t171.length : Int) == a1)))
set_option maxHeartbeats 8000000 in
set_option maxRecDepth 100000 in
theorem impl_split.calls (a0 : ByteArray) (a1 : Int) (r1 : List ByteArray) (r2 : Bool) (w : World) (HT0 : LayB w) (h : impl_split.f a0 a1 = some (r1, r2)) :
    Calls Tryd.prog 39 #[.string a0, .int .i64 a1] w fun e w' => ∃ v0_ : Value, e = .returned (.tuple #[v0_, .bool r2]) ∧ Kd.R Kd.string 9 w' w.heap.size (fun _ => True) v0_ r1 ∧ Below w.heap.size w w' := by
  have HT := Aside0.mk HT0
  clear HT0
  have HB := Aside0.mk (Below.refl w.heap.size w)
  have H : ((strings_Split.f a0 (⟨#[32]⟩ : ByteArray)).bind fun t171 => (some (t171, ((t171.length : Int) == a1)))) = some (r1, r2) := h
  clear h
  replace H := Option.bind_eq_some_iff.mp H
  obtain ⟨t171, A30, H⟩ := H
  replace H : (some (t171, ((t171.length : Int) == a1))) = some (r1, r2) := H
  have A3 := Aside0.mk A30
  clear A30
  simp only [Option.some.injEq, Prod.mk.injEq] at H
  obtain ⟨rfl, rfl⟩ := H
  go_enter Tryd.func39, Tryd.ntmps39
  go_wp2_with (first | ((with_reducible refine gate_callee (f := 57) rfl ?_); refine goesL_ (some 8) rfl rfl Tryd.func57 (by kernel_rfl) rfl #[.string a0, .string (⟨#[32]⟩ : ByteArray)] rfl (by (try simp only [List.map_toArray, List.map_cons, List.map_nil]); first | done | rfl | (simp only [List.length_drop, List.length_take]; rfl)) ?_; (with_reducible refine (strings_Split.calls a0 (⟨#[32]⟩ : ByteArray) t171 _ ?side_lay A3.out).mono ?_); (case side_lay => exact LayB.up HT.out (by repeat (first | (with_reducible first | exact HB.out | apply below_alloc | apply pw_below_drewN | apply below_drew1) | exact HB.out))); rintro e w4 ⟨v172, rfl, ho0, hb⟩; refine ⟨_, rfl, ?_⟩; have n0_ := Aside0.mk (Kd.R_lower ho0 (below_size (by repeat (first | (with_reducible first | exact HB.out | apply below_alloc | apply pw_below_drewN | apply below_drew1) | exact HB.out)))); have n1_ := Aside0.mk (below_step (by repeat (first | (with_reducible first | exact HB.out | apply below_alloc | apply pw_below_drewN | apply below_drew1) | exact HB.out)) hb); clear HB; have HO173 := n0_; have HB := n1_; clear n0_ n1_; (try clear hb); (try clear hb2); (try clear hk); (try clear hi); (try clear ho0); obtain ⟨Ao5, co5, eo5⟩ := Kd.R_slice HO173.out; subst eo5))
  go_ret2
  exact ⟨_, by first | rfl | (simp [errW_none, errW_some] <;> rfl) | (simp [*, errW_none, errW_some] <;> rfl), by (with_reducible repeat (first | apply Kd.R_alloc | apply Kd.R_drewN | apply Kd.R_drew)); exact HO173.out, by repeat (first | (with_reducible first | exact HB.out | apply below_alloc | apply pw_below_drewN | apply below_drew1) | exact HB.out)⟩

/-! ### impl_atoi: function 40 -/
def impl_atoi.f (a0 : ByteArray) : Option (Int) := if a0.size ≤ 281474976710656 then (some (atoiOf a0)) else (none)
theorem impl_atoi.calls (a0 : ByteArray) (r : Int) (w : World) (HT0 : LayB w) (h : impl_atoi.f a0 = some r) :
    Calls Tryd.prog 40 #[.string a0] w fun e w' => e = .returned (.int .i64 r) ∧ Below w.heap.size w w' := by
  unfold impl_atoi.f at h
  by_cases h0 : a0.size ≤ 281474976710656
  · rw [if_pos h0] at h
    obtain rfl := Option.some.inj h
    exact LayB.atoi a0 h0 w HT0
  · rw [if_neg h0] at h
    exact absurd h (by simp)

/-! ### impl_ParseMilli: function 43 -/
def impl_ParseMilli.f (k : Nat) (a0 : ByteArray) : Option (Int × Bool) := if a0.size < 4294967281 then (match milliN a0 with
  | none => some (0, false)
  | some m => (impl_isValue.f m).bind fun b => if b = true then ((impl_MilliText.f k m).bind fun t => if t.toList = a0.toList then some (m, true) else some (0, false)) else some (0, false)) else none
theorem impl_ParseMilli.mono : ∀ a0 k, LeO (impl_ParseMilli.f k a0) (impl_ParseMilli.f (k + 1) a0) := by
  intro a0 k r h
  unfold impl_ParseMilli.f at h ⊢
  by_cases h0 : a0.size < 4294967281
  · rw [if_pos h0] at h ⊢
    cases hm : milliN a0 with
    | none =>
      rw [hm] at h
      exact h
    | some m =>
      rw [hm] at h
      simp only at h ⊢
      obtain ⟨b, hb, h⟩ := Option.bind_eq_some_iff.1 h
      rw [hb]
      simp only [Option.bind_some]
      by_cases hbt : b = true
      · rw [if_pos hbt] at h ⊢
        obtain ⟨t, ht, h⟩ := Option.bind_eq_some_iff.1 h
        rw [impl_MilliText.mono m k t ht]
        exact h
      · rw [if_neg hbt] at h ⊢
        exact h
  · rw [if_neg h0] at h
    cases h
set_option maxRecDepth 100000 in
theorem impl_ParseMilli.hit0 (k : Nat) (s : ByteArray) (hs : s.size < 4294967281) (w : World) (HT : LayB w) (h7 : ¬ (ahead (bare s)).size > 7) (h3 : ¬ (behind (bare s)).size > 3) (n : Int) (ha : Lib.atoiAll (digitsOf (bare s)).data.toList = .ok n)
    (he : (bare s).toList = s.toList) (t : ByteArray) (hi : impl_isValue.f n = some true) (ht : impl_MilliText.f k n = some t) (hq : t.toList = s.toList) :
    Calls Tryd.prog 43 #[.string s] w fun e w' => e = .returned (.tuple #[.int .i64 n, .bool true]) ∧ Below w.heap.size w w' := by
  have hb := bare_size s
  have c1 : decide (7 < ((ahead (bare s)).size : Int)) = false := decide_eq_false (by omega)
  have c2 : decide (7 < (ahead (bare s)).size) = false := decide_eq_false (by omega)
  have c3 : decide (3 < ((behind (bare s)).size : Int)) = false := decide_eq_false (by omega)
  have c4 : decide (3 < (behind (bare s)).size) = false := decide_eq_false (by omega)
  have c5 : ((bare s).toList == s.toList) = true := beq_iff_eq.mpr he
  have c6 : ((bare s).toList != s.toList) = false := bne_eq_false_iff_eq.mpr he
  have c7 : (t.toList == s.toList) = true := beq_iff_eq.mpr hq
  have c8 : (t.toList != s.toList) = false := bne_eq_false_iff_eq.mpr hq
  have hd := digits_size (bare s) (by omega) (by omega)
  go_enter Tryd.func43, Tryd.ntmps43
  go_wp2_with (first | (go_at_call 59; refine (LayB.trim s _).mono ?_; rintro e w' ⟨rfl, rfl⟩) | (go_at_call 60; refine (LayB.halves (bare s) (by omega) _ HT).mono ?_; rintro e w' ⟨rfl, n0, rfl⟩) | (go_at_call 58; refine (LayB.atoi_ok (digitsOf (bare s)) (by omega) n ha _).mono ?_; rintro e W1 ⟨rfl, hb1⟩) | (go_at_call 55; refine (impl_isValue.calls n true _ hi).mono ?_; rintro e w2 ⟨rfl, ⟨nd, rfl⟩⟩) | (go_at_call 36; refine ((impl_MilliText.calls k n t _ ?hlay ht)).mono ?_; (case hlay => exact (HT.up (by ((first | apply pw_below_drewN | skip); exact below_step (by repeat (first | exact Below.refl _ _ | apply pw_below_drewN)) hb1)))); rintro e W2 ⟨rfl, hb2⟩))
  go_ret2
  exact ⟨rfl, below_step (by ((first | apply pw_below_drewN | skip); exact below_step (by repeat (first | exact Below.refl _ _ | apply pw_below_drewN)) hb1)) hb2⟩
set_option maxRecDepth 100000 in
theorem impl_ParseMilli.miss0 (k : Nat) (s : ByteArray) (hs : s.size < 4294967281) (w : World) (HT : LayB w) (h7 : ¬ (ahead (bare s)).size > 7) (h3 : ¬ (behind (bare s)).size > 3) (n : Int) (ha : Lib.atoiAll (digitsOf (bare s)).data.toList = .ok n)
    (he : (bare s).toList = s.toList) (t : ByteArray) (hi : impl_isValue.f n = some true) (ht : impl_MilliText.f k n = some t) (hq : ¬ t.toList = s.toList) :
    Calls Tryd.prog 43 #[.string s] w fun e w' => e = .returned (.tuple #[.int .i64 0, .bool false]) ∧ Below w.heap.size w w' := by
  have hb := bare_size s
  have c1 : decide (7 < ((ahead (bare s)).size : Int)) = false := decide_eq_false (by omega)
  have c2 : decide (7 < (ahead (bare s)).size) = false := decide_eq_false (by omega)
  have c3 : decide (3 < ((behind (bare s)).size : Int)) = false := decide_eq_false (by omega)
  have c4 : decide (3 < (behind (bare s)).size) = false := decide_eq_false (by omega)
  have c5 : ((bare s).toList == s.toList) = true := beq_iff_eq.mpr he
  have c6 : ((bare s).toList != s.toList) = false := bne_eq_false_iff_eq.mpr he
  have c7 : (t.toList == s.toList) = false := beq_eq_false_iff_ne.mpr hq
  have c8 : (t.toList != s.toList) = true := bne_iff_ne.mpr hq
  have hd := digits_size (bare s) (by omega) (by omega)
  go_enter Tryd.func43, Tryd.ntmps43
  go_wp2_with (first | (go_at_call 59; refine (LayB.trim s _).mono ?_; rintro e w' ⟨rfl, rfl⟩) | (go_at_call 60; refine (LayB.halves (bare s) (by omega) _ HT).mono ?_; rintro e w' ⟨rfl, n0, rfl⟩) | (go_at_call 58; refine (LayB.atoi_ok (digitsOf (bare s)) (by omega) n ha _).mono ?_; rintro e W1 ⟨rfl, hb1⟩) | (go_at_call 55; refine (impl_isValue.calls n true _ hi).mono ?_; rintro e w2 ⟨rfl, ⟨nd, rfl⟩⟩) | (go_at_call 36; refine ((impl_MilliText.calls k n t _ ?hlay ht)).mono ?_; (case hlay => exact (HT.up (by ((first | apply pw_below_drewN | skip); exact below_step (by repeat (first | exact Below.refl _ _ | apply pw_below_drewN)) hb1)))); rintro e W2 ⟨rfl, hb2⟩))
  go_ret2
  exact ⟨rfl, below_step (by ((first | apply pw_below_drewN | skip); exact below_step (by repeat (first | exact Below.refl _ _ | apply pw_below_drewN)) hb1)) hb2⟩
set_option maxRecDepth 100000 in
theorem impl_ParseMilli.no0 (k : Nat) (s : ByteArray) (hs : s.size < 4294967281) (w : World) (HT : LayB w) (h7 : ¬ (ahead (bare s)).size > 7) (h3 : ¬ (behind (bare s)).size > 3) (n : Int) (ha : Lib.atoiAll (digitsOf (bare s)).data.toList = .ok n)
    (he : (bare s).toList = s.toList) (hi : impl_isValue.f n = some false) :
    Calls Tryd.prog 43 #[.string s] w fun e w' => e = .returned (.tuple #[.int .i64 0, .bool false]) ∧ Below w.heap.size w w' := by
  have hb := bare_size s
  have c1 : decide (7 < ((ahead (bare s)).size : Int)) = false := decide_eq_false (by omega)
  have c2 : decide (7 < (ahead (bare s)).size) = false := decide_eq_false (by omega)
  have c3 : decide (3 < ((behind (bare s)).size : Int)) = false := decide_eq_false (by omega)
  have c4 : decide (3 < (behind (bare s)).size) = false := decide_eq_false (by omega)
  have c5 : ((bare s).toList == s.toList) = true := beq_iff_eq.mpr he
  have c6 : ((bare s).toList != s.toList) = false := bne_eq_false_iff_eq.mpr he
  have hd := digits_size (bare s) (by omega) (by omega)
  go_enter Tryd.func43, Tryd.ntmps43
  go_wp2_with (first | (go_at_call 59; refine (LayB.trim s _).mono ?_; rintro e w' ⟨rfl, rfl⟩) | (go_at_call 60; refine (LayB.halves (bare s) (by omega) _ HT).mono ?_; rintro e w' ⟨rfl, n0, rfl⟩) | (go_at_call 58; refine (LayB.atoi_ok (digitsOf (bare s)) (by omega) n ha _).mono ?_; rintro e W1 ⟨rfl, hb1⟩) | (go_at_call 55; refine (impl_isValue.calls n false _ hi).mono ?_; rintro e w2 ⟨rfl, ⟨nd, rfl⟩⟩))
  go_ret2
  exact ⟨rfl, by ((first | apply pw_below_drewN | skip); exact below_step (by repeat (first | exact Below.refl _ _ | apply pw_below_drewN)) hb1)⟩
set_option maxRecDepth 100000 in
theorem impl_ParseMilli.hit1 (k : Nat) (s : ByteArray) (hs : s.size < 4294967281) (w : World) (HT : LayB w) (h7 : ¬ (ahead (bare s)).size > 7) (h3 : ¬ (behind (bare s)).size > 3) (n : Int) (ha : Lib.atoiAll (digitsOf (bare s)).data.toList = .ok n)
    (he : ¬ (bare s).toList = s.toList) (t : ByteArray) (hi : impl_isValue.f (wrap64 (-n)) = some true) (ht : impl_MilliText.f k (wrap64 (-n)) = some t) (hq : t.toList = s.toList) :
    Calls Tryd.prog 43 #[.string s] w fun e w' => e = .returned (.tuple #[.int .i64 (wrap64 (-n)), .bool true]) ∧ Below w.heap.size w w' := by
  have hb := bare_size s
  have c1 : decide (7 < ((ahead (bare s)).size : Int)) = false := decide_eq_false (by omega)
  have c2 : decide (7 < (ahead (bare s)).size) = false := decide_eq_false (by omega)
  have c3 : decide (3 < ((behind (bare s)).size : Int)) = false := decide_eq_false (by omega)
  have c4 : decide (3 < (behind (bare s)).size) = false := decide_eq_false (by omega)
  have c5 : ((bare s).toList == s.toList) = false := beq_eq_false_iff_ne.mpr he
  have c6 : ((bare s).toList != s.toList) = true := bne_iff_ne.mpr he
  have c7 : (t.toList == s.toList) = true := beq_iff_eq.mpr hq
  have c8 : (t.toList != s.toList) = false := bne_eq_false_iff_eq.mpr hq
  have hd := digits_size (bare s) (by omega) (by omega)
  go_enter Tryd.func43, Tryd.ntmps43
  go_wp2_with (first | (go_at_call 59; refine (LayB.trim s _).mono ?_; rintro e w' ⟨rfl, rfl⟩) | (go_at_call 60; refine (LayB.halves (bare s) (by omega) _ HT).mono ?_; rintro e w' ⟨rfl, n0, rfl⟩) | (go_at_call 58; refine (LayB.atoi_ok (digitsOf (bare s)) (by omega) n ha _).mono ?_; rintro e W1 ⟨rfl, hb1⟩) | (go_at_call 55; refine (impl_isValue.calls (wrap64 (-n)) true _ hi).mono ?_; rintro e w2 ⟨rfl, ⟨nd, rfl⟩⟩) | (go_at_call 36; refine ((impl_MilliText.calls k (wrap64 (-n)) t _ ?hlay ht)).mono ?_; (case hlay => exact (HT.up (by ((first | apply pw_below_drewN | skip); exact below_step (by repeat (first | exact Below.refl _ _ | apply pw_below_drewN)) hb1)))); rintro e W2 ⟨rfl, hb2⟩))
  go_ret2
  exact ⟨rfl, below_step (by ((first | apply pw_below_drewN | skip); exact below_step (by repeat (first | exact Below.refl _ _ | apply pw_below_drewN)) hb1)) hb2⟩
set_option maxRecDepth 100000 in
theorem impl_ParseMilli.miss1 (k : Nat) (s : ByteArray) (hs : s.size < 4294967281) (w : World) (HT : LayB w) (h7 : ¬ (ahead (bare s)).size > 7) (h3 : ¬ (behind (bare s)).size > 3) (n : Int) (ha : Lib.atoiAll (digitsOf (bare s)).data.toList = .ok n)
    (he : ¬ (bare s).toList = s.toList) (t : ByteArray) (hi : impl_isValue.f (wrap64 (-n)) = some true) (ht : impl_MilliText.f k (wrap64 (-n)) = some t) (hq : ¬ t.toList = s.toList) :
    Calls Tryd.prog 43 #[.string s] w fun e w' => e = .returned (.tuple #[.int .i64 0, .bool false]) ∧ Below w.heap.size w w' := by
  have hb := bare_size s
  have c1 : decide (7 < ((ahead (bare s)).size : Int)) = false := decide_eq_false (by omega)
  have c2 : decide (7 < (ahead (bare s)).size) = false := decide_eq_false (by omega)
  have c3 : decide (3 < ((behind (bare s)).size : Int)) = false := decide_eq_false (by omega)
  have c4 : decide (3 < (behind (bare s)).size) = false := decide_eq_false (by omega)
  have c5 : ((bare s).toList == s.toList) = false := beq_eq_false_iff_ne.mpr he
  have c6 : ((bare s).toList != s.toList) = true := bne_iff_ne.mpr he
  have c7 : (t.toList == s.toList) = false := beq_eq_false_iff_ne.mpr hq
  have c8 : (t.toList != s.toList) = true := bne_iff_ne.mpr hq
  have hd := digits_size (bare s) (by omega) (by omega)
  go_enter Tryd.func43, Tryd.ntmps43
  go_wp2_with (first | (go_at_call 59; refine (LayB.trim s _).mono ?_; rintro e w' ⟨rfl, rfl⟩) | (go_at_call 60; refine (LayB.halves (bare s) (by omega) _ HT).mono ?_; rintro e w' ⟨rfl, n0, rfl⟩) | (go_at_call 58; refine (LayB.atoi_ok (digitsOf (bare s)) (by omega) n ha _).mono ?_; rintro e W1 ⟨rfl, hb1⟩) | (go_at_call 55; refine (impl_isValue.calls (wrap64 (-n)) true _ hi).mono ?_; rintro e w2 ⟨rfl, ⟨nd, rfl⟩⟩) | (go_at_call 36; refine ((impl_MilliText.calls k (wrap64 (-n)) t _ ?hlay ht)).mono ?_; (case hlay => exact (HT.up (by ((first | apply pw_below_drewN | skip); exact below_step (by repeat (first | exact Below.refl _ _ | apply pw_below_drewN)) hb1)))); rintro e W2 ⟨rfl, hb2⟩))
  go_ret2
  exact ⟨rfl, below_step (by ((first | apply pw_below_drewN | skip); exact below_step (by repeat (first | exact Below.refl _ _ | apply pw_below_drewN)) hb1)) hb2⟩
set_option maxRecDepth 100000 in
theorem impl_ParseMilli.no1 (k : Nat) (s : ByteArray) (hs : s.size < 4294967281) (w : World) (HT : LayB w) (h7 : ¬ (ahead (bare s)).size > 7) (h3 : ¬ (behind (bare s)).size > 3) (n : Int) (ha : Lib.atoiAll (digitsOf (bare s)).data.toList = .ok n)
    (he : ¬ (bare s).toList = s.toList) (hi : impl_isValue.f (wrap64 (-n)) = some false) :
    Calls Tryd.prog 43 #[.string s] w fun e w' => e = .returned (.tuple #[.int .i64 0, .bool false]) ∧ Below w.heap.size w w' := by
  have hb := bare_size s
  have c1 : decide (7 < ((ahead (bare s)).size : Int)) = false := decide_eq_false (by omega)
  have c2 : decide (7 < (ahead (bare s)).size) = false := decide_eq_false (by omega)
  have c3 : decide (3 < ((behind (bare s)).size : Int)) = false := decide_eq_false (by omega)
  have c4 : decide (3 < (behind (bare s)).size) = false := decide_eq_false (by omega)
  have c5 : ((bare s).toList == s.toList) = false := beq_eq_false_iff_ne.mpr he
  have c6 : ((bare s).toList != s.toList) = true := bne_iff_ne.mpr he
  have hd := digits_size (bare s) (by omega) (by omega)
  go_enter Tryd.func43, Tryd.ntmps43
  go_wp2_with (first | (go_at_call 59; refine (LayB.trim s _).mono ?_; rintro e w' ⟨rfl, rfl⟩) | (go_at_call 60; refine (LayB.halves (bare s) (by omega) _ HT).mono ?_; rintro e w' ⟨rfl, n0, rfl⟩) | (go_at_call 58; refine (LayB.atoi_ok (digitsOf (bare s)) (by omega) n ha _).mono ?_; rintro e W1 ⟨rfl, hb1⟩) | (go_at_call 55; refine (impl_isValue.calls (wrap64 (-n)) false _ hi).mono ?_; rintro e w2 ⟨rfl, ⟨nd, rfl⟩⟩))
  go_ret2
  exact ⟨rfl, by ((first | apply pw_below_drewN | skip); exact below_step (by repeat (first | exact Below.refl _ _ | apply pw_below_drewN)) hb1)⟩
theorem impl_ParseMilli.calls (k : Nat) (a0 : ByteArray) (r1 : Int) (r2 : Bool) (w : World) (HT0 : LayB w) (h : impl_ParseMilli.f k a0 = some (r1, r2)) :
    Calls Tryd.prog 43 #[.string a0] w fun e w' => e = .returned (.tuple #[.int .i64 r1, .bool r2]) ∧ Below w.heap.size w w' := by
  unfold impl_ParseMilli.f at h
  by_cases h0 : a0.size < 4294967281
  · rw [if_pos h0] at h
    cases hm : milliN a0 with
    | none =>
      rw [hm] at h
      simp only [Option.some.injEq, Prod.mk.injEq] at h
      obtain ⟨rfl, rfl⟩ := h
      exact LayB.parseMilli_miss a0 h0 w HT0 hm
    | some m =>
      rw [hm] at h
      simp only at h
      obtain ⟨h7, h3, n, ha, hmn⟩ := milliN_some hm
      obtain ⟨b, hb, h⟩ := Option.bind_eq_some_iff.1 h
      by_cases he : (bare a0).toList = a0.toList
      · rw [if_pos he] at hmn
        subst hmn
        cases b with
        | true =>
          rw [if_pos rfl] at h
          obtain ⟨t, ht, h⟩ := Option.bind_eq_some_iff.1 h
          by_cases hq : t.toList = a0.toList
          · rw [if_pos hq] at h
            simp only [Option.some.injEq, Prod.mk.injEq] at h
            obtain ⟨rfl, rfl⟩ := h
            exact impl_ParseMilli.hit0 k a0 h0 w HT0 h7 h3 _ ha he t hb ht hq
          · rw [if_neg hq] at h
            simp only [Option.some.injEq, Prod.mk.injEq] at h
            obtain ⟨rfl, rfl⟩ := h
            exact impl_ParseMilli.miss0 k a0 h0 w HT0 h7 h3 _ ha he t hb ht hq
        | false =>
          rw [if_neg (by simp)] at h
          simp only [Option.some.injEq, Prod.mk.injEq] at h
          obtain ⟨rfl, rfl⟩ := h
          exact impl_ParseMilli.no0 k a0 h0 w HT0 h7 h3 _ ha he hb
      · rw [if_neg he] at hmn
        subst hmn
        cases b with
        | true =>
          rw [if_pos rfl] at h
          obtain ⟨t, ht, h⟩ := Option.bind_eq_some_iff.1 h
          by_cases hq : t.toList = a0.toList
          · rw [if_pos hq] at h
            simp only [Option.some.injEq, Prod.mk.injEq] at h
            obtain ⟨rfl, rfl⟩ := h
            exact impl_ParseMilli.hit1 k a0 h0 w HT0 h7 h3 _ ha he t hb ht hq
          · rw [if_neg hq] at h
            simp only [Option.some.injEq, Prod.mk.injEq] at h
            obtain ⟨rfl, rfl⟩ := h
            exact impl_ParseMilli.miss1 k a0 h0 w HT0 h7 h3 _ ha he t hb ht hq
        | false =>
          rw [if_neg (by simp)] at h
          simp only [Option.some.injEq, Prod.mk.injEq] at h
          obtain ⟨rfl, rfl⟩ := h
          exact impl_ParseMilli.no1 k a0 h0 w HT0 h7 h3 _ ha he hb
  · rw [if_neg h0] at h
    cases h

end Go.Proofs.YtbbnlagdahickaaDoor.PFnExactParseGoal
