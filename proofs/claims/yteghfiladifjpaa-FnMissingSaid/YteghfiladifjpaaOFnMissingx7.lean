/- What the Go functions spec.CeilDiv, spec.WantOf compute, as Lean functions, and the proof that each call comes to just that. Conditions: those at each theorem. -/
import Derived.Test.YteghfiladifjpaaOFnMissingx0
import Derived.Test.YteghfiladifjpaaOFnMissingx6
namespace Go.Proofs.Yteghfiladifjpaa.PFnMissing
open Go.RowKit Go.Proofs.YteghfiladifjpaaW.PrintWords Go.Proofs.YteghfiladifjpaaW.PrintLast Go.Proofs.YteghfiladifjpaaW.PrintMore
attribute [local go_sem] max2_int min2_int max_two min_two max_three min_three max_four min_four   -- for this text's walks alone
set_option linter.unusedVariables false
set_option linter.unusedSimpArgs false

/-! ### spec_CeilDiv: function 70 -/
def spec_CeilDiv.f (a0 : Int) (a1 : Int) : Option (Int) := if a1 < 1 then (some 0) else (if a1 = 0 then (none) else (if (Int.tmod a0 a1) > 0 then (some (wrap64 ((wrap64 (Int.tdiv a0 a1)) + 1))) else (some (wrap64 (Int.tdiv a0 a1)))))
set_option maxHeartbeats 8000000 in
set_option maxRecDepth 100000 in
theorem spec_CeilDiv.calls (a0 : Int) (a1 : Int) (r : Int) (w : World) (h : spec_CeilDiv.f a0 a1 = some r) :
    Calls Try.prog 70 #[.int .i64 a0, .int .i64 a1] w fun e w' => e = .returned (.int .i64 r) ∧ Drawn0 w w' := by
  have H : (if a1 < 1 then (some 0) else (if a1 = 0 then (none) else (if (Int.tmod a0 a1) > 0 then (some (wrap64 ((wrap64 (Int.tdiv a0 a1)) + 1))) else (some (wrap64 (Int.tdiv a0 a1)))))) = some r := h
  clear h
  by_cases c3 : a1 < 1
  · rw [if_pos c3] at H
    have c3b0 : decide (a1 < 1) = true := decide_eq_true c3
    clear c3
    obtain rfl := Option.some.inj H
    go_enter Try.func70, Try.ntmps70
    go_wp2
    go_ret
    exact ⟨by first | rfl | (simp; done) | (simp [*]; done), by repeat (first | exact Drawn0.refl _ | apply Drawn0.step)⟩
  · rw [if_neg c3] at H
    have c3b0 : decide (a1 < 1) = false := decide_eq_false c3
    clear c3
    by_cases c4 : a1 = 0
    · rw [if_pos c4] at H
      exact absurd H (by simp)
    · rw [if_neg c4] at H
      have c4b0 : (a1 == 0) = false := beq_eq_false_iff_ne.mpr c4
      have c4b1 : (a1 != 0) = true := bne_iff_ne.mpr c4
      by_cases c5 : (Int.tmod a0 a1) > 0
      · rw [if_pos c5] at H
        have c5b0 : decide (0 < (Int.tmod a0 a1)) = true := decide_eq_true c5
        clear c5
        obtain rfl := Option.some.inj H
        go_enter Try.func70, Try.ntmps70
        go_wp2
        go_ret
        exact ⟨by first | rfl | (simp; done) | (simp [*]; done), by repeat (first | exact Drawn0.refl _ | apply Drawn0.step)⟩
      · rw [if_neg c5] at H
        have c5b0 : decide (0 < (Int.tmod a0 a1)) = false := decide_eq_false c5
        clear c5
        obtain rfl := Option.some.inj H
        go_enter Try.func70, Try.ntmps70
        go_wp2
        go_ret
        exact ⟨by first | rfl | (simp; done) | (simp [*]; done), by repeat (first | exact Drawn0.refl _ | apply Drawn0.step)⟩

/-! ### spec_WantOf: function 25 -/
mutual
def spec_WantOf.j0 : Nat → Int → Bool → Int → Int → Int → Int → ByteArray → Int → Int → Option (Int)
  | 0, _, _, _, _, _, _, _, _, _ => none
  | k + 1, x0, x24, x337000, x337001, x337002, x337003, x338000, x338001, x338002 => if x24 = true then (some (-1)) else ((spec_RefillOf.f k x337000 x337001 x337002 x337003 x338000 x338001 x338002).bind fun bt341 => ((spec_RatioSign.f k x337003 x337000 x338001).bind fun t343 => ((spec_RatioSign.f k bt341.1 bt341.2 x338001).bind fun t344 => (if x0 = 0 then (spec_WantOf.j1 k x0 bt341.1 t344 true x338000 x338001 x338002) else ((spec_InBand.f k x337003 x337000 x338000 x338001 x338002).bind fun t345 => (if t345 = true then (spec_WantOf.j1 k x0 bt341.1 t344 true x338000 x338001 x338002) else ((spec_InBand.f k bt341.1 bt341.2 x338000 x338001 x338002).bind fun t346 => (if t346 = true then (spec_WantOf.j1 k x0 bt341.1 t344 true x338000 x338001 x338002) else (spec_WantOf.j1 k x0 bt341.1 t344 (t343 != t344) x338000 x338001 x338002)))))))))
def spec_WantOf.j1 : Nat → Int → Int → Int → Bool → ByteArray → Int → Int → Option (Int)
  | 0, _, _, _, _, _, _, _ => none
  | k + 1, x0, x7, x10, x63, x338000, x338001, x338002 => if x63 = true then (some x0) else ((spec_CeilDiv.f x7 x338001).bind fun t347 => (if t347 > 1000 then (if x10 = 1 then (if 1000 < x0 then (some x0) else (if x10 = (-1) then (if 1000 > x0 then (some x0) else (some 1000)) else (some 1000))) else (if x10 = (-1) then (if 1000 > x0 then (some x0) else (some 1000)) else (some 1000))) else (if x10 = 1 then (if t347 < x0 then (some x0) else (if x10 = (-1) then (if t347 > x0 then (some x0) else (some t347)) else (some t347))) else (if x10 = (-1) then (if t347 > x0 then (some x0) else (some t347)) else (some t347)))))
end
def spec_WantOf.f (k : Nat) (a0 : Int) (a1_0 : Int) (a1_1 : Int) (a1_2 : Int) (a1_3 : Int) (a2_0 : ByteArray) (a2_1 : Int) (a2_2 : Int) : Option (Int) := (spec_l05Count.f a0).bind fun t338 => (if t338 = true then ((spec_l05Usable.f a1_0 a1_1 a1_2 a1_3).bind fun t339 => (if t339 = true then ((spec_GoalOk.f k a2_0 a2_1 a2_2).bind fun t340 => (spec_WantOf.j0 k a0 (!t340) a1_0 a1_1 a1_2 a1_3 a2_0 a2_1 a2_2)) else (spec_WantOf.j0 k a0 true a1_0 a1_1 a1_2 a1_3 a2_0 a2_1 a2_2))) else (spec_WantOf.j0 k a0 true a1_0 a1_1 a1_2 a1_3 a2_0 a2_1 a2_2))
set_option maxHeartbeats 8000000 in
set_option maxRecDepth 100000 in
theorem spec_WantOf.calls (k : Nat) (a0 : Int) (a1_0 : Int) (a1_1 : Int) (a1_2 : Int) (a1_3 : Int) (a2_0 : ByteArray) (a2_1 : Int) (a2_2 : Int) (r : Int) (w : World) (h : spec_WantOf.f k a0 a1_0 a1_1 a1_2 a1_3 a2_0 a2_1 a2_2 = some r) :
    Calls Try.prog 25 #[.int .i64 a0, .agg #[.int .i64 a1_0, .int .i64 a1_1, .int .i64 a1_2, .int .i64 a1_3], .agg #[.string a2_0, .int .i64 a2_1, .int .i64 a2_2]] w fun e w' => e = .returned (.int .i64 r) ∧ Below w.heap.size w w' := by
  have hu36 := Try.underlying36
  have hu38 := Try.underlying38
  have HB := Aside0.mk (Below.refl w.heap.size w)
  have H : ((spec_l05Count.f a0).bind fun t338 => (if t338 = true then ((spec_l05Usable.f a1_0 a1_1 a1_2 a1_3).bind fun t339 => (if t339 = true then ((spec_GoalOk.f k a2_0 a2_1 a2_2).bind fun t340 => (spec_WantOf.j0 k a0 (!t340) a1_0 a1_1 a1_2 a1_3 a2_0 a2_1 a2_2)) else (spec_WantOf.j0 k a0 true a1_0 a1_1 a1_2 a1_3 a2_0 a2_1 a2_2))) else (spec_WantOf.j0 k a0 true a1_0 a1_1 a1_2 a1_3 a2_0 a2_1 a2_2))) = some r := h
  clear h
  have HC4 := Aside0.mk H
  clear H
  go_enter Try.func25, Try.ntmps25
  go_upto_region 1 with (first | ((with_reducible refine gate_dst (N := 4) rfl ?_); refine box_event ?hg (N := 4) ?hd (cs := #[.int .i64 a1_0, .int .i64 a1_1, .int .i64 a1_2, .int .i64 a1_3]) (t := 36) ?hr ?_; (case hd => rfl); (case hg => rfl); (case hr => first | (go_simp; done) | (go_simp; rfl)); intro gb336 hg w5 hbox hb; have n0_ := Aside0.mk (below_step (by repeat (first | (with_reducible first | exact HB.out | apply below_alloc | apply pw_below_drewN | apply below_drew1) | exact HB.out)) hb); have n1_ := Aside0.mk (hbox); have n2_ := Aside0.mk ((by rw [hg]; exact (below_size (by repeat (first | (with_reducible first | exact HB.out | apply below_alloc | apply pw_below_drewN | apply below_drew1) | exact HB.out))) : w.heap.size ≤ gb336)); have n3_ := Aside0.mk ((by rw [hg]; exact (below_size (by repeat (first | (with_reducible first | exact HB.out | apply below_alloc | apply pw_below_drewN | apply below_drew1) | exact HB.out))) : w.heap.size ≤ gb336)); clear HB; have HB := n0_; have BK336 := n1_; have GW336 := n2_; have GE336 := n3_; clear n0_ n1_ n2_ n3_; clear hb hbox hg) | ((with_reducible refine gate_dst (N := 5) rfl ?_); refine box_event ?hg (N := 5) ?hd (cs := #[.string a2_0, .int .i64 a2_1, .int .i64 a2_2]) (t := 38) ?hr ?_; (case hd => rfl); (case hg => rfl); (case hr => first | (go_simp; done) | (go_simp; rfl)); intro gb337 hg w6 hbox hb; have n0_ := Aside0.mk (blk_below (g := gb336) (o := .cells #[.int .i64 a1_0, .int .i64 a1_1, .int .i64 a1_2, .int .i64 a1_3] 36 (0, 0)) (by (with_reducible repeat (first | refine blk_drewN ?_ _ | refine blk_drew ?_ | refine blk_alloc ?_ _)); exact BK336.out) hb); have n1_ := Aside0.mk (below_step (by repeat (first | (with_reducible first | exact HB.out | apply below_alloc | apply pw_below_drewN | apply below_drew1 | refine below_set ?_ GE336.out) | exact HB.out)) hb); have n2_ := Aside0.mk (hbox); have n3_ := Aside0.mk ((by rw [hg]; exact (below_size (by repeat (first | (with_reducible first | exact HB.out | apply below_alloc | apply pw_below_drewN | apply below_drew1 | refine below_set ?_ GE336.out) | exact HB.out))) : w.heap.size ≤ gb337)); have n4_ := Aside0.mk ((by rw [hg]; exact (below_size (by repeat (first | (with_reducible first | exact HB.out | apply below_alloc | apply pw_below_drewN | apply below_drew1 | refine below_set ?_ GE336.out) | exact HB.out))) : w.heap.size ≤ gb337)); have n5_ := Aside0.mk ((by rw [hg]; exact Nat.ne_of_lt (blk_lt (g := gb336) (o := .cells #[.int .i64 a1_0, .int .i64 a1_1, .int .i64 a1_2, .int .i64 a1_3] 36 (0, 0)) (by (with_reducible repeat (first | refine blk_drewN ?_ _ | refine blk_drew ?_ | refine blk_alloc ?_ _)); exact BK336.out)) : gb336 ≠ gb337)); have n6_ := Aside0.mk ((by rw [hg]; exact Nat.ne_of_gt (blk_lt (g := gb336) (o := .cells #[.int .i64 a1_0, .int .i64 a1_1, .int .i64 a1_2, .int .i64 a1_3] 36 (0, 0)) (by (with_reducible repeat (first | refine blk_drewN ?_ _ | refine blk_drew ?_ | refine blk_alloc ?_ _)); exact BK336.out)) : gb337 ≠ gb336)); clear BK336; clear HB; have BK336 := n0_; have HB := n1_; have BK337 := n2_; have GW337 := n3_; have GE337 := n4_; have NB336_337 := n5_; have NB337_336 := n6_; clear n0_ n1_ n2_ n3_ n4_ n5_ n6_; clear hb hbox hg))
  (try simp only [Act.put, List.setIfInBounds_toArray, List.set_cons_zero, List.set_cons_succ])
  go_cut [24] (fun v24 wc => ∃ (kq : Nat) (x24_3 : Bool), v24 = .bool x24_3 ∧ Aside0 (spec_WantOf.j0 kq a0 x24_3 a1_0 a1_1 a1_2 a1_3 a2_0 a2_1 a2_2 = some r) ∧ Aside0 (kq ≤ k) ∧ Aside0 (wc.heap[gb336]? = some (.cells #[.int .i64 a1_0, .int .i64 a1_1, .int .i64 a1_2, .int .i64 a1_3] 36 (0, 0))) ∧ Aside0 (wc.heap[gb337]? = some (.cells #[.string a2_0, .int .i64 a2_1, .int .i64 a2_2] 38 (0, 0))) ∧ Aside0 (Below w.heap.size w wc))
  case first =>
    have H := HC4.out
    clear HC4
    replace H := Option.bind_eq_some_iff.mp H
    obtain ⟨t338, A70, H⟩ := H
    replace H : (if t338 = true then ((spec_l05Usable.f a1_0 a1_1 a1_2 a1_3).bind fun t339 => (if t339 = true then ((spec_GoalOk.f k a2_0 a2_1 a2_2).bind fun t340 => (spec_WantOf.j0 k a0 (!t340) a1_0 a1_1 a1_2 a1_3 a2_0 a2_1 a2_2)) else (spec_WantOf.j0 k a0 true a1_0 a1_1 a1_2 a1_3 a2_0 a2_1 a2_2))) else (spec_WantOf.j0 k a0 true a1_0 a1_1 a1_2 a1_3 a2_0 a2_1 a2_2)) = some r := H
    have A7 := Aside0.mk A70
    clear A70
    by_cases c8 : t338 = true
    · subst c8
      have H1 : ((spec_l05Usable.f a1_0 a1_1 a1_2 a1_3).bind fun t339 => (if t339 = true then ((spec_GoalOk.f k a2_0 a2_1 a2_2).bind fun t340 => (spec_WantOf.j0 k a0 (!t340) a1_0 a1_1 a1_2 a1_3 a2_0 a2_1 a2_2)) else (spec_WantOf.j0 k a0 true a1_0 a1_1 a1_2 a1_3 a2_0 a2_1 a2_2))) = some r := by rw [if_pos rfl] at H; exact H
      clear H
      have H := H1
      clear H1
      replace H := Option.bind_eq_some_iff.mp H
      obtain ⟨t339, A90, H⟩ := H
      replace H : (if t339 = true then ((spec_GoalOk.f k a2_0 a2_1 a2_2).bind fun t340 => (spec_WantOf.j0 k a0 (!t340) a1_0 a1_1 a1_2 a1_3 a2_0 a2_1 a2_2)) else (spec_WantOf.j0 k a0 true a1_0 a1_1 a1_2 a1_3 a2_0 a2_1 a2_2)) = some r := H
      have A9 := Aside0.mk A90
      clear A90
      by_cases c10 : t339 = true
      · subst c10
        have H1 : ((spec_GoalOk.f k a2_0 a2_1 a2_2).bind fun t340 => (spec_WantOf.j0 k a0 (!t340) a1_0 a1_1 a1_2 a1_3 a2_0 a2_1 a2_2)) = some r := by rw [if_pos rfl] at H; exact H
        clear H
        have H := H1
        clear H1
        replace H := Option.bind_eq_some_iff.mp H
        obtain ⟨t340, A110, H⟩ := H
        replace H : (spec_WantOf.j0 k a0 (!t340) a1_0 a1_1 a1_2 a1_3 a2_0 a2_1 a2_2) = some r := H
        have A11 := Aside0.mk A110
        clear A110
        have H' := Aside0.mk H
        clear H
        go_wp2_with (first | ((with_reducible refine gate_callee (f := 67) rfl ?_); refine goesL_ (some 13) rfl rfl Try.func67 (by kernel_rfl) rfl #[.int .i64 a0] rfl (by (try simp only [List.map_toArray, List.map_cons, List.map_nil]); first | done | rfl | (simp only [List.length_drop, List.length_take]; rfl)) ?_; (with_reducible refine (spec_l05Count.calls a0 true _ A7.out).mono ?_); rintro e w' ⟨rfl, ⟨nd, rfl⟩⟩; refine ⟨_, rfl, ?_⟩; have hnb12 := NB336_337.out; have hnc12 := NB337_336.out; obtain ⟨hcz13_0, hcz13_1, hcz13_2, hcz13_3, hfz13_0, hfz13_1, hfz13_2, hfz13_3⟩ := blk4 BK336.out) | (go_at_call 68; (with_reducible refine (spec_l05Usable.calls a1_0 a1_1 a1_2 a1_3 true _ A9.out).mono ?_); rintro e w14 ⟨rfl, hb⟩; have n0_ := Aside0.mk (blk_below (g := gb336) (o := .cells #[.int .i64 a1_0, .int .i64 a1_1, .int .i64 a1_2, .int .i64 a1_3] 36 (0, 0)) (by (with_reducible repeat (first | refine blk_drewN ?_ _ | refine blk_drew ?_ | refine blk_alloc ?_ _)); exact BK336.out) hb); have n1_ := Aside0.mk (blk_below (g := gb337) (o := .cells #[.string a2_0, .int .i64 a2_1, .int .i64 a2_2] 38 (0, 0)) (by (with_reducible repeat (first | refine blk_drewN ?_ _ | refine blk_drew ?_ | refine blk_alloc ?_ _)); exact BK337.out) hb); have n2_ := Aside0.mk (below_step (by repeat (first | (with_reducible first | exact HB.out | apply below_alloc | apply pw_below_drewN | apply below_drew1 | refine below_set ?_ GE336.out | refine below_set ?_ GE337.out) | exact HB.out)) hb); clear BK336; clear BK337; clear HB; have BK336 := n0_; have BK337 := n1_; have HB := n2_; clear n0_ n1_ n2_; (try clear hb); (try clear hb2); (try clear hk); (try clear hi); obtain ⟨hcz15_0, hcz15_1, hcz15_2, hfz15_0, hfz15_1, hfz15_2⟩ := blk3 BK337.out) | (go_at_call 27; (with_reducible refine (spec_GoalOk.calls k a2_0 a2_1 a2_2 t340 _ A11.out).mono ?_); rintro e w16 ⟨rfl, hb⟩; have n0_ := Aside0.mk (blk_below (g := gb336) (o := .cells #[.int .i64 a1_0, .int .i64 a1_1, .int .i64 a1_2, .int .i64 a1_3] 36 (0, 0)) (by (with_reducible repeat (first | refine blk_drewN ?_ _ | refine blk_drew ?_ | refine blk_alloc ?_ _)); exact BK336.out) hb); have n1_ := Aside0.mk (blk_below (g := gb337) (o := .cells #[.string a2_0, .int .i64 a2_1, .int .i64 a2_2] 38 (0, 0)) (by (with_reducible repeat (first | refine blk_drewN ?_ _ | refine blk_drew ?_ | refine blk_alloc ?_ _)); exact BK337.out) hb); have n2_ := Aside0.mk (below_step (by repeat (first | (with_reducible first | exact HB.out | apply below_alloc | apply pw_below_drewN | apply below_drew1 | refine below_set ?_ GE336.out | refine below_set ?_ GE337.out) | exact HB.out)) hb); clear BK336; clear BK337; clear HB; have BK336 := n0_; have BK337 := n1_; have HB := n2_; clear n0_ n1_ n2_; (try clear hb); (try clear hb2); (try clear hk); (try clear hi)))
        go_meet
        case rel => exact ⟨_, (!t340), (by first | rfl | (simp; done) | (simp [*]; done)), H', ⟨by first | omega | exact Nat.le_refl _⟩, ⟨by (with_reducible repeat (first | refine blk_drewN ?_ _ | refine blk_drew ?_ | refine blk_alloc ?_ _)); exact BK336.out⟩, ⟨by (with_reducible repeat (first | refine blk_drewN ?_ _ | refine blk_drew ?_ | refine blk_alloc ?_ _)); exact BK337.out⟩, ⟨by repeat (first | (with_reducible first | exact HB.out | apply below_alloc | apply pw_below_drewN | apply below_drew1 | refine below_set ?_ GE336.out | refine below_set ?_ GE337.out) | exact HB.out)⟩⟩
      · replace c10 := Bool.eq_false_iff.mpr c10
        subst c10
        have H1 : (spec_WantOf.j0 k a0 true a1_0 a1_1 a1_2 a1_3 a2_0 a2_1 a2_2) = some r := by rw [if_neg (show ¬ (false = true) by decide)] at H; exact H
        clear H
        have H := H1
        clear H1
        have H' := Aside0.mk H
        clear H
        go_wp2_with (first | ((with_reducible refine gate_callee (f := 67) rfl ?_); refine goesL_ (some 13) rfl rfl Try.func67 (by kernel_rfl) rfl #[.int .i64 a0] rfl (by (try simp only [List.map_toArray, List.map_cons, List.map_nil]); first | done | rfl | (simp only [List.length_drop, List.length_take]; rfl)) ?_; (with_reducible refine (spec_l05Count.calls a0 true _ A7.out).mono ?_); rintro e w' ⟨rfl, ⟨nd, rfl⟩⟩; refine ⟨_, rfl, ?_⟩; have hnb17 := NB336_337.out; have hnc17 := NB337_336.out; obtain ⟨hcz18_0, hcz18_1, hcz18_2, hcz18_3, hfz18_0, hfz18_1, hfz18_2, hfz18_3⟩ := blk4 BK336.out) | (go_at_call 68; (with_reducible refine (spec_l05Usable.calls a1_0 a1_1 a1_2 a1_3 false _ A9.out).mono ?_); rintro e w19 ⟨rfl, hb⟩; have n0_ := Aside0.mk (blk_below (g := gb336) (o := .cells #[.int .i64 a1_0, .int .i64 a1_1, .int .i64 a1_2, .int .i64 a1_3] 36 (0, 0)) (by (with_reducible repeat (first | refine blk_drewN ?_ _ | refine blk_drew ?_ | refine blk_alloc ?_ _)); exact BK336.out) hb); have n1_ := Aside0.mk (blk_below (g := gb337) (o := .cells #[.string a2_0, .int .i64 a2_1, .int .i64 a2_2] 38 (0, 0)) (by (with_reducible repeat (first | refine blk_drewN ?_ _ | refine blk_drew ?_ | refine blk_alloc ?_ _)); exact BK337.out) hb); have n2_ := Aside0.mk (below_step (by repeat (first | (with_reducible first | exact HB.out | apply below_alloc | apply pw_below_drewN | apply below_drew1 | refine below_set ?_ GE336.out | refine below_set ?_ GE337.out) | exact HB.out)) hb); clear BK336; clear BK337; clear HB; have BK336 := n0_; have BK337 := n1_; have HB := n2_; clear n0_ n1_ n2_; (try clear hb); (try clear hb2); (try clear hk); (try clear hi)))
        go_meet
        case rel => exact ⟨_, (true), (by first | rfl | (simp; done) | (simp [*]; done)), H', ⟨by first | omega | exact Nat.le_refl _⟩, ⟨by (with_reducible repeat (first | refine blk_drewN ?_ _ | refine blk_drew ?_ | refine blk_alloc ?_ _)); exact BK336.out⟩, ⟨by (with_reducible repeat (first | refine blk_drewN ?_ _ | refine blk_drew ?_ | refine blk_alloc ?_ _)); exact BK337.out⟩, ⟨by repeat (first | (with_reducible first | exact HB.out | apply below_alloc | apply pw_below_drewN | apply below_drew1 | refine below_set ?_ GE336.out | refine below_set ?_ GE337.out) | exact HB.out)⟩⟩
    · replace c8 := Bool.eq_false_iff.mpr c8
      subst c8
      have H1 : (spec_WantOf.j0 k a0 true a1_0 a1_1 a1_2 a1_3 a2_0 a2_1 a2_2) = some r := by rw [if_neg (show ¬ (false = true) by decide)] at H; exact H
      clear H
      have H := H1
      clear H1
      have H' := Aside0.mk H
      clear H
      go_wp2_with (first | ((with_reducible refine gate_callee (f := 67) rfl ?_); refine goesL_ (some 13) rfl rfl Try.func67 (by kernel_rfl) rfl #[.int .i64 a0] rfl (by (try simp only [List.map_toArray, List.map_cons, List.map_nil]); first | done | rfl | (simp only [List.length_drop, List.length_take]; rfl)) ?_; (with_reducible refine (spec_l05Count.calls a0 false _ A7.out).mono ?_); rintro e w' ⟨rfl, ⟨nd, rfl⟩⟩; refine ⟨_, rfl, ?_⟩))
      go_meet
      case rel => exact ⟨_, (true), (by first | rfl | (simp; done) | (simp [*]; done)), H', ⟨by first | omega | exact Nat.le_refl _⟩, ⟨by (with_reducible repeat (first | refine blk_drewN ?_ _ | refine blk_drew ?_ | refine blk_alloc ?_ _)); exact BK336.out⟩, ⟨by (with_reducible repeat (first | refine blk_drewN ?_ _ | refine blk_drew ?_ | refine blk_alloc ?_ _)); exact BK337.out⟩, ⟨by repeat (first | (with_reducible first | exact HB.out | apply below_alloc | apply pw_below_drewN | apply below_drew1 | refine below_set ?_ GE336.out | refine below_set ?_ GE337.out) | exact HB.out)⟩⟩
  case rest =>
    clear HC4
    try clear c1
    try clear c2
    try clear p2
    try clear c6
    try clear c8
    try clear c10
    try clear c12
    try clear c17
    try clear hcz13_0
    try clear hcz13_1
    try clear hcz13_2
    try clear hcz13_3
    try clear hcz15_0
    try clear hcz15_1
    try clear hcz15_2
    try clear hcz18_0
    try clear hcz18_1
    try clear hcz18_2
    try clear hcz18_3
    try clear hfz13_0
    try clear hfz13_1
    try clear hfz13_2
    try clear hfz13_3
    try clear hfz15_0
    try clear hfz15_1
    try clear hfz15_2
    try clear hfz18_0
    try clear hfz18_1
    try clear hfz18_2
    try clear hfz18_3
    obtain ⟨kq, x24_3, rfl, HA, HJ3, BK336, BK337, HB⟩ := hcut
    cases kq with
    | zero => exact absurd HA.out (by simp [spec_WantOf.j0])
    | succ kj3 =>
      have H := HA.out
      clear HA
      simp only [spec_WantOf.j0] at H
      by_cases c20 : x24_3 = true
      · subst c20
        have H1 : (some (-1)) = some r := by rw [if_pos rfl] at H; exact H
        clear H
        have H := H1
        clear H1
        obtain rfl := Option.some.inj H
        go_wp2
        go_ret
        exact ⟨by first | rfl | (simp [errW_none, errW_some] <;> rfl) | (simp [*, errW_none, errW_some] <;> rfl), by repeat (first | (with_reducible first | exact HB.out | apply below_alloc | apply pw_below_drewN | apply below_drew1 | refine below_set ?_ GE336.out | refine below_set ?_ GE337.out) | exact HB.out)⟩
      · replace c20 := Bool.eq_false_iff.mpr c20
        subst c20
        have H1 : ((spec_RefillOf.f kj3 a1_0 a1_1 a1_2 a1_3 a2_0 a2_1 a2_2).bind fun bt341 => ((spec_RatioSign.f kj3 a1_3 a1_0 a2_1).bind fun t343 => ((spec_RatioSign.f kj3 bt341.1 bt341.2 a2_1).bind fun t344 => (if a0 = 0 then (spec_WantOf.j1 kj3 a0 bt341.1 t344 true a2_0 a2_1 a2_2) else ((spec_InBand.f kj3 a1_3 a1_0 a2_0 a2_1 a2_2).bind fun t345 => (if t345 = true then (spec_WantOf.j1 kj3 a0 bt341.1 t344 true a2_0 a2_1 a2_2) else ((spec_InBand.f kj3 bt341.1 bt341.2 a2_0 a2_1 a2_2).bind fun t346 => (if t346 = true then (spec_WantOf.j1 kj3 a0 bt341.1 t344 true a2_0 a2_1 a2_2) else (spec_WantOf.j1 kj3 a0 bt341.1 t344 (t343 != t344) a2_0 a2_1 a2_2))))))))) = some r := by rw [if_neg (show ¬ (false = true) by decide)] at H; exact H
        clear H
        have H := H1
        clear H1
        replace H := Option.bind_eq_some_iff.mp H
        obtain ⟨⟨t341, t342⟩, A210, H⟩ := H
        replace H : ((spec_RatioSign.f kj3 a1_3 a1_0 a2_1).bind fun t343 => ((spec_RatioSign.f kj3 t341 t342 a2_1).bind fun t344 => (if a0 = 0 then (spec_WantOf.j1 kj3 a0 t341 t344 true a2_0 a2_1 a2_2) else ((spec_InBand.f kj3 a1_3 a1_0 a2_0 a2_1 a2_2).bind fun t345 => (if t345 = true then (spec_WantOf.j1 kj3 a0 t341 t344 true a2_0 a2_1 a2_2) else ((spec_InBand.f kj3 t341 t342 a2_0 a2_1 a2_2).bind fun t346 => (if t346 = true then (spec_WantOf.j1 kj3 a0 t341 t344 true a2_0 a2_1 a2_2) else (spec_WantOf.j1 kj3 a0 t341 t344 (t343 != t344) a2_0 a2_1 a2_2)))))))) = some r := H
        have A21 := Aside0.mk A210
        clear A210
        replace H := Option.bind_eq_some_iff.mp H
        obtain ⟨t343, A220, H⟩ := H
        replace H : ((spec_RatioSign.f kj3 t341 t342 a2_1).bind fun t344 => (if a0 = 0 then (spec_WantOf.j1 kj3 a0 t341 t344 true a2_0 a2_1 a2_2) else ((spec_InBand.f kj3 a1_3 a1_0 a2_0 a2_1 a2_2).bind fun t345 => (if t345 = true then (spec_WantOf.j1 kj3 a0 t341 t344 true a2_0 a2_1 a2_2) else ((spec_InBand.f kj3 t341 t342 a2_0 a2_1 a2_2).bind fun t346 => (if t346 = true then (spec_WantOf.j1 kj3 a0 t341 t344 true a2_0 a2_1 a2_2) else (spec_WantOf.j1 kj3 a0 t341 t344 (t343 != t344) a2_0 a2_1 a2_2))))))) = some r := H
        have A22 := Aside0.mk A220
        clear A220
        replace H := Option.bind_eq_some_iff.mp H
        obtain ⟨t344, A230, H⟩ := H
        replace H : (if a0 = 0 then (spec_WantOf.j1 kj3 a0 t341 t344 true a2_0 a2_1 a2_2) else ((spec_InBand.f kj3 a1_3 a1_0 a2_0 a2_1 a2_2).bind fun t345 => (if t345 = true then (spec_WantOf.j1 kj3 a0 t341 t344 true a2_0 a2_1 a2_2) else ((spec_InBand.f kj3 t341 t342 a2_0 a2_1 a2_2).bind fun t346 => (if t346 = true then (spec_WantOf.j1 kj3 a0 t341 t344 true a2_0 a2_1 a2_2) else (spec_WantOf.j1 kj3 a0 t341 t344 (t343 != t344) a2_0 a2_1 a2_2)))))) = some r := H
        have A23 := Aside0.mk A230
        clear A230
        have HC24 := Aside0.mk H
        clear H
        have hnb25 := NB336_337.out
        have hnc25 := NB337_336.out
        obtain ⟨hcz26_0, hcz26_1, hcz26_2, hcz26_3, hfz26_0, hfz26_1, hfz26_2, hfz26_3⟩ := blk4 BK336.out
        obtain ⟨hcz27_0, hcz27_1, hcz27_2, hfz27_0, hfz27_1, hfz27_2⟩ := blk3 BK337.out
        go_upto_region 6 with (first | ((with_reducible refine gate_callee (f := 69) rfl ?_); refine goesL_ (some 28) rfl rfl Try.func69 (by kernel_rfl) rfl #[.agg #[.int .i64 a1_0, .int .i64 a1_1, .int .i64 a1_2, .int .i64 a1_3], .agg #[.string a2_0, .int .i64 a2_1, .int .i64 a2_2]] rfl (by (try simp only [List.map_toArray, List.map_cons, List.map_nil]); first | done | rfl | (simp only [List.length_drop, List.length_take]; rfl)) ?_; (with_reducible refine (spec_RefillOf.calls kj3 a1_0 a1_1 a1_2 a1_3 a2_0 a2_1 a2_2 t341 t342 _ A21.out).mono ?_); rintro e w28 ⟨rfl, hb⟩; refine ⟨_, rfl, ?_⟩; have n0_ := Aside0.mk (blk_below (g := gb336) (o := .cells #[.int .i64 a1_0, .int .i64 a1_1, .int .i64 a1_2, .int .i64 a1_3] 36 (0, 0)) (by (with_reducible repeat (first | refine blk_drewN ?_ _ | refine blk_drew ?_ | refine blk_alloc ?_ _)); exact BK336.out) hb); have n1_ := Aside0.mk (blk_below (g := gb337) (o := .cells #[.string a2_0, .int .i64 a2_1, .int .i64 a2_2] 38 (0, 0)) (by (with_reducible repeat (first | refine blk_drewN ?_ _ | refine blk_drew ?_ | refine blk_alloc ?_ _)); exact BK337.out) hb); have n2_ := Aside0.mk (below_step (by repeat (first | (with_reducible first | exact HB.out | apply below_alloc | apply pw_below_drewN | apply below_drew1 | refine below_set ?_ GE336.out | refine below_set ?_ GE337.out) | exact HB.out)) hb); clear BK336; clear BK337; clear HB; have BK336 := n0_; have BK337 := n1_; have HB := n2_; clear n0_ n1_ n2_; (try clear hb); (try clear hb2); (try clear hk); (try clear hi); obtain ⟨hcz29_0, hcz29_1, hcz29_2, hcz29_3, hfz29_0, hfz29_1, hfz29_2, hfz29_3⟩ := blk4 BK336.out; obtain ⟨hcz30_0, hcz30_1, hcz30_2, hfz30_0, hfz30_1, hfz30_2⟩ := blk3 BK337.out) | ((with_reducible refine gate_callee (f := 34) rfl ?_); refine goesL_ (some 37) rfl rfl Try.func34 (by kernel_rfl) rfl #[.int .i64 a1_3, .int .i64 a1_0, .int .i64 a2_1] rfl (by (try simp only [List.map_toArray, List.map_cons, List.map_nil]); first | done | rfl | (simp only [List.length_drop, List.length_take]; rfl)) ?_; (with_reducible refine (spec_RatioSign.calls kj3 a1_3 a1_0 a2_1 t343 _ A22.out).mono ?_); rintro e w' ⟨rfl, ⟨nd, rfl⟩⟩; refine ⟨_, rfl, ?_⟩) | ((with_reducible refine gate_callee (f := 34) rfl ?_); refine goesL_ (some 42) rfl rfl Try.func34 (by kernel_rfl) rfl #[.int .i64 t341, .int .i64 t342, .int .i64 a2_1] rfl (by (try simp only [List.map_toArray, List.map_cons, List.map_nil]); first | done | rfl | (simp only [List.length_drop, List.length_take]; rfl)) ?_; (with_reducible refine (spec_RatioSign.calls kj3 t341 t342 a2_1 t344 _ A23.out).mono ?_); rintro e w' ⟨rfl, ⟨nd, rfl⟩⟩; refine ⟨_, rfl, ?_⟩))
        (try simp only [Act.put, List.setIfInBounds_toArray, List.set_cons_zero, List.set_cons_succ])
        go_cut [63] (fun v63 wc => ∃ (kq : Nat) (x63_23 : Bool), v63 = .bool x63_23 ∧ Aside0 (spec_WantOf.j1 kq a0 t341 t344 x63_23 a2_0 a2_1 a2_2 = some r) ∧ Aside0 (kq ≤ kj3) ∧ Aside0 (wc.heap[gb336]? = some (.cells #[.int .i64 a1_0, .int .i64 a1_1, .int .i64 a1_2, .int .i64 a1_3] 36 (0, 0))) ∧ Aside0 (wc.heap[gb337]? = some (.cells #[.string a2_0, .int .i64 a2_1, .int .i64 a2_2] 38 (0, 0))) ∧ Aside0 (Below w.heap.size w wc))
        case first =>
          have H := HC24.out
          clear HC24
          by_cases c31 : a0 = 0
          · rw [if_pos c31] at H
            have c31b0 : (a0 == 0) = true := beq_iff_eq.mpr c31
            have c31b1 : (a0 != 0) = false := bne_eq_false_iff_eq.mpr c31
            clear c31
            (first | rw [c31b0] | (simp only [i64_w, i32_w]; rw [c31b0]) | skip)
            have H' := Aside0.mk H
            clear H
            go_wp2
            go_meet
            case rel => exact ⟨_, (true), (by first | rfl | (simp; done) | (simp [*]; done)), H', ⟨by have := HJ3.out; first | omega | exact Nat.le_refl _⟩, ⟨by (with_reducible repeat (first | refine blk_drewN ?_ _ | refine blk_drew ?_ | refine blk_alloc ?_ _)); exact BK336.out⟩, ⟨by (with_reducible repeat (first | refine blk_drewN ?_ _ | refine blk_drew ?_ | refine blk_alloc ?_ _)); exact BK337.out⟩, ⟨by repeat (first | (with_reducible first | exact HB.out | apply below_alloc | apply pw_below_drewN | apply below_drew1 | refine below_set ?_ GE336.out | refine below_set ?_ GE337.out) | exact HB.out)⟩⟩
          · rw [if_neg c31] at H
            have c31b0 : (a0 == 0) = false := beq_eq_false_iff_ne.mpr c31
            have c31b1 : (a0 != 0) = true := bne_iff_ne.mpr c31
            (first | rw [c31b0] | (simp only [i64_w, i32_w]; rw [c31b0]) | skip)
            replace H := Option.bind_eq_some_iff.mp H
            obtain ⟨t345, A320, H⟩ := H
            replace H : (if t345 = true then (spec_WantOf.j1 kj3 a0 t341 t344 true a2_0 a2_1 a2_2) else ((spec_InBand.f kj3 t341 t342 a2_0 a2_1 a2_2).bind fun t346 => (if t346 = true then (spec_WantOf.j1 kj3 a0 t341 t344 true a2_0 a2_1 a2_2) else (spec_WantOf.j1 kj3 a0 t341 t344 (t343 != t344) a2_0 a2_1 a2_2)))) = some r := H
            have A32 := Aside0.mk A320
            clear A320
            by_cases c33 : t345 = true
            · subst c33
              have H1 : (spec_WantOf.j1 kj3 a0 t341 t344 true a2_0 a2_1 a2_2) = some r := by rw [if_pos rfl] at H; exact H
              clear H
              have H := H1
              clear H1
              have H' := Aside0.mk H
              clear H
              have hnb34 := NB336_337.out
              have hnc34 := NB337_336.out
              obtain ⟨hcz35_0, hcz35_1, hcz35_2, hcz35_3, hfz35_0, hfz35_1, hfz35_2, hfz35_3⟩ := blk4 BK336.out
              obtain ⟨hcz36_0, hcz36_1, hcz36_2, hfz36_0, hfz36_1, hfz36_2⟩ := blk3 BK337.out
              go_wp2_with (first | (go_at_call 54; (with_reducible refine (spec_InBand.calls kj3 a1_3 a1_0 a2_0 a2_1 a2_2 true _ A32.out).mono ?_); rintro e w37 ⟨rfl, hb⟩; have n0_ := Aside0.mk (blk_below (g := gb336) (o := .cells #[.int .i64 a1_0, .int .i64 a1_1, .int .i64 a1_2, .int .i64 a1_3] 36 (0, 0)) (by (with_reducible repeat (first | refine blk_drewN ?_ _ | refine blk_drew ?_ | refine blk_alloc ?_ _)); exact BK336.out) hb); have n1_ := Aside0.mk (blk_below (g := gb337) (o := .cells #[.string a2_0, .int .i64 a2_1, .int .i64 a2_2] 38 (0, 0)) (by (with_reducible repeat (first | refine blk_drewN ?_ _ | refine blk_drew ?_ | refine blk_alloc ?_ _)); exact BK337.out) hb); have n2_ := Aside0.mk (below_step (by repeat (first | (with_reducible first | exact HB.out | apply below_alloc | apply pw_below_drewN | apply below_drew1 | refine below_set ?_ GE336.out | refine below_set ?_ GE337.out) | exact HB.out)) hb); clear BK336; clear BK337; clear HB; have BK336 := n0_; have BK337 := n1_; have HB := n2_; clear n0_ n1_ n2_; (try clear hb); (try clear hb2); (try clear hk); (try clear hi)))
              go_meet
              case rel => exact ⟨_, (true), (by first | rfl | (simp; done) | (simp [*]; done)), H', ⟨by have := HJ3.out; first | omega | exact Nat.le_refl _⟩, ⟨by (with_reducible repeat (first | refine blk_drewN ?_ _ | refine blk_drew ?_ | refine blk_alloc ?_ _)); exact BK336.out⟩, ⟨by (with_reducible repeat (first | refine blk_drewN ?_ _ | refine blk_drew ?_ | refine blk_alloc ?_ _)); exact BK337.out⟩, ⟨by repeat (first | (with_reducible first | exact HB.out | apply below_alloc | apply pw_below_drewN | apply below_drew1 | refine below_set ?_ GE336.out | refine below_set ?_ GE337.out) | exact HB.out)⟩⟩
            · replace c33 := Bool.eq_false_iff.mpr c33
              subst c33
              have H1 : ((spec_InBand.f kj3 t341 t342 a2_0 a2_1 a2_2).bind fun t346 => (if t346 = true then (spec_WantOf.j1 kj3 a0 t341 t344 true a2_0 a2_1 a2_2) else (spec_WantOf.j1 kj3 a0 t341 t344 (t343 != t344) a2_0 a2_1 a2_2))) = some r := by rw [if_neg (show ¬ (false = true) by decide)] at H; exact H
              clear H
              have H := H1
              clear H1
              replace H := Option.bind_eq_some_iff.mp H
              obtain ⟨t346, A380, H⟩ := H
              replace H : (if t346 = true then (spec_WantOf.j1 kj3 a0 t341 t344 true a2_0 a2_1 a2_2) else (spec_WantOf.j1 kj3 a0 t341 t344 (t343 != t344) a2_0 a2_1 a2_2)) = some r := H
              have A38 := Aside0.mk A380
              clear A380
              by_cases c39 : t346 = true
              · subst c39
                have H1 : (spec_WantOf.j1 kj3 a0 t341 t344 true a2_0 a2_1 a2_2) = some r := by rw [if_pos rfl] at H; exact H
                clear H
                have H := H1
                clear H1
                have H' := Aside0.mk H
                clear H
                have hnb40 := NB336_337.out
                have hnc40 := NB337_336.out
                obtain ⟨hcz41_0, hcz41_1, hcz41_2, hcz41_3, hfz41_0, hfz41_1, hfz41_2, hfz41_3⟩ := blk4 BK336.out
                obtain ⟨hcz42_0, hcz42_1, hcz42_2, hfz42_0, hfz42_1, hfz42_2⟩ := blk3 BK337.out
                go_wp2_with (first | (go_at_call 54; (with_reducible refine (spec_InBand.calls kj3 a1_3 a1_0 a2_0 a2_1 a2_2 false _ A32.out).mono ?_); rintro e w43 ⟨rfl, hb⟩; have n0_ := Aside0.mk (blk_below (g := gb336) (o := .cells #[.int .i64 a1_0, .int .i64 a1_1, .int .i64 a1_2, .int .i64 a1_3] 36 (0, 0)) (by (with_reducible repeat (first | refine blk_drewN ?_ _ | refine blk_drew ?_ | refine blk_alloc ?_ _)); exact BK336.out) hb); have n1_ := Aside0.mk (blk_below (g := gb337) (o := .cells #[.string a2_0, .int .i64 a2_1, .int .i64 a2_2] 38 (0, 0)) (by (with_reducible repeat (first | refine blk_drewN ?_ _ | refine blk_drew ?_ | refine blk_alloc ?_ _)); exact BK337.out) hb); have n2_ := Aside0.mk (below_step (by repeat (first | (with_reducible first | exact HB.out | apply below_alloc | apply pw_below_drewN | apply below_drew1 | refine below_set ?_ GE336.out | refine below_set ?_ GE337.out) | exact HB.out)) hb); clear BK336; clear BK337; clear HB; have BK336 := n0_; have BK337 := n1_; have HB := n2_; clear n0_ n1_ n2_; (try clear hb); (try clear hb2); (try clear hk); (try clear hi); obtain ⟨hcz44_0, hcz44_1, hcz44_2, hfz44_0, hfz44_1, hfz44_2⟩ := blk3 BK337.out) | (go_at_call 54; (with_reducible refine (spec_InBand.calls kj3 t341 t342 a2_0 a2_1 a2_2 true _ A38.out).mono ?_); rintro e w45 ⟨rfl, hb⟩; have n0_ := Aside0.mk (blk_below (g := gb336) (o := .cells #[.int .i64 a1_0, .int .i64 a1_1, .int .i64 a1_2, .int .i64 a1_3] 36 (0, 0)) (by (with_reducible repeat (first | refine blk_drewN ?_ _ | refine blk_drew ?_ | refine blk_alloc ?_ _)); exact BK336.out) hb); have n1_ := Aside0.mk (blk_below (g := gb337) (o := .cells #[.string a2_0, .int .i64 a2_1, .int .i64 a2_2] 38 (0, 0)) (by (with_reducible repeat (first | refine blk_drewN ?_ _ | refine blk_drew ?_ | refine blk_alloc ?_ _)); exact BK337.out) hb); have n2_ := Aside0.mk (below_step (by repeat (first | (with_reducible first | exact HB.out | apply below_alloc | apply pw_below_drewN | apply below_drew1 | refine below_set ?_ GE336.out | refine below_set ?_ GE337.out) | exact HB.out)) hb); clear BK336; clear BK337; clear HB; have BK336 := n0_; have BK337 := n1_; have HB := n2_; clear n0_ n1_ n2_; (try clear hb); (try clear hb2); (try clear hk); (try clear hi)))
                go_meet
                case rel => exact ⟨_, (true), (by first | rfl | (simp; done) | (simp [*]; done)), H', ⟨by have := HJ3.out; first | omega | exact Nat.le_refl _⟩, ⟨by (with_reducible repeat (first | refine blk_drewN ?_ _ | refine blk_drew ?_ | refine blk_alloc ?_ _)); exact BK336.out⟩, ⟨by (with_reducible repeat (first | refine blk_drewN ?_ _ | refine blk_drew ?_ | refine blk_alloc ?_ _)); exact BK337.out⟩, ⟨by repeat (first | (with_reducible first | exact HB.out | apply below_alloc | apply pw_below_drewN | apply below_drew1 | refine below_set ?_ GE336.out | refine below_set ?_ GE337.out) | exact HB.out)⟩⟩
              · replace c39 := Bool.eq_false_iff.mpr c39
                subst c39
                have H1 : (spec_WantOf.j1 kj3 a0 t341 t344 (t343 != t344) a2_0 a2_1 a2_2) = some r := by rw [if_neg (show ¬ (false = true) by decide)] at H; exact H
                clear H
                have H := H1
                clear H1
                have H' := Aside0.mk H
                clear H
                have hnb46 := NB336_337.out
                have hnc46 := NB337_336.out
                obtain ⟨hcz47_0, hcz47_1, hcz47_2, hcz47_3, hfz47_0, hfz47_1, hfz47_2, hfz47_3⟩ := blk4 BK336.out
                obtain ⟨hcz48_0, hcz48_1, hcz48_2, hfz48_0, hfz48_1, hfz48_2⟩ := blk3 BK337.out
                go_wp2_with (first | (go_at_call 54; (with_reducible refine (spec_InBand.calls kj3 a1_3 a1_0 a2_0 a2_1 a2_2 false _ A32.out).mono ?_); rintro e w49 ⟨rfl, hb⟩; have n0_ := Aside0.mk (blk_below (g := gb336) (o := .cells #[.int .i64 a1_0, .int .i64 a1_1, .int .i64 a1_2, .int .i64 a1_3] 36 (0, 0)) (by (with_reducible repeat (first | refine blk_drewN ?_ _ | refine blk_drew ?_ | refine blk_alloc ?_ _)); exact BK336.out) hb); have n1_ := Aside0.mk (blk_below (g := gb337) (o := .cells #[.string a2_0, .int .i64 a2_1, .int .i64 a2_2] 38 (0, 0)) (by (with_reducible repeat (first | refine blk_drewN ?_ _ | refine blk_drew ?_ | refine blk_alloc ?_ _)); exact BK337.out) hb); have n2_ := Aside0.mk (below_step (by repeat (first | (with_reducible first | exact HB.out | apply below_alloc | apply pw_below_drewN | apply below_drew1 | refine below_set ?_ GE336.out | refine below_set ?_ GE337.out) | exact HB.out)) hb); clear BK336; clear BK337; clear HB; have BK336 := n0_; have BK337 := n1_; have HB := n2_; clear n0_ n1_ n2_; (try clear hb); (try clear hb2); (try clear hk); (try clear hi); obtain ⟨hcz50_0, hcz50_1, hcz50_2, hfz50_0, hfz50_1, hfz50_2⟩ := blk3 BK337.out) | (go_at_call 54; (with_reducible refine (spec_InBand.calls kj3 t341 t342 a2_0 a2_1 a2_2 false _ A38.out).mono ?_); rintro e w51 ⟨rfl, hb⟩; have n0_ := Aside0.mk (blk_below (g := gb336) (o := .cells #[.int .i64 a1_0, .int .i64 a1_1, .int .i64 a1_2, .int .i64 a1_3] 36 (0, 0)) (by (with_reducible repeat (first | refine blk_drewN ?_ _ | refine blk_drew ?_ | refine blk_alloc ?_ _)); exact BK336.out) hb); have n1_ := Aside0.mk (blk_below (g := gb337) (o := .cells #[.string a2_0, .int .i64 a2_1, .int .i64 a2_2] 38 (0, 0)) (by (with_reducible repeat (first | refine blk_drewN ?_ _ | refine blk_drew ?_ | refine blk_alloc ?_ _)); exact BK337.out) hb); have n2_ := Aside0.mk (below_step (by repeat (first | (with_reducible first | exact HB.out | apply below_alloc | apply pw_below_drewN | apply below_drew1 | refine below_set ?_ GE336.out | refine below_set ?_ GE337.out) | exact HB.out)) hb); clear BK336; clear BK337; clear HB; have BK336 := n0_; have BK337 := n1_; have HB := n2_; clear n0_ n1_ n2_; (try clear hb); (try clear hb2); (try clear hk); (try clear hi)))
                go_meet
                case rel => exact ⟨_, ((t343 != t344)), (by first | rfl | (simp; done) | (simp [*]; done)), H', ⟨by have := HJ3.out; first | omega | exact Nat.le_refl _⟩, ⟨by (with_reducible repeat (first | refine blk_drewN ?_ _ | refine blk_drew ?_ | refine blk_alloc ?_ _)); exact BK336.out⟩, ⟨by (with_reducible repeat (first | refine blk_drewN ?_ _ | refine blk_drew ?_ | refine blk_alloc ?_ _)); exact BK337.out⟩, ⟨by repeat (first | (with_reducible first | exact HB.out | apply below_alloc | apply pw_below_drewN | apply below_drew1 | refine below_set ?_ GE336.out | refine below_set ?_ GE337.out) | exact HB.out)⟩⟩
        case rest =>
          clear HC24
          try clear c1
          try clear c2
          try clear p2
          try clear c3
          try clear c4
          try clear c6
          try clear c8
          try clear c10
          try clear c12
          try clear c17
          try clear c20
          try clear c25
          try clear c31
          try clear c31b0
          try clear c31b1
          try clear c33
          try clear c34
          try clear c39
          try clear c40
          try clear c46
          try clear hcz13_0
          try clear hcz13_1
          try clear hcz13_2
          try clear hcz13_3
          try clear hcz15_0
          try clear hcz15_1
          try clear hcz15_2
          try clear hcz18_0
          try clear hcz18_1
          try clear hcz18_2
          try clear hcz18_3
          try clear hcz26_0
          try clear hcz26_1
          try clear hcz26_2
          try clear hcz26_3
          try clear hcz27_0
          try clear hcz27_1
          try clear hcz27_2
          try clear hcz29_0
          try clear hcz29_1
          try clear hcz29_2
          try clear hcz29_3
          try clear hcz30_0
          try clear hcz30_1
          try clear hcz30_2
          try clear hcz35_0
          try clear hcz35_1
          try clear hcz35_2
          try clear hcz35_3
          try clear hcz36_0
          try clear hcz36_1
          try clear hcz36_2
          try clear hcz41_0
          try clear hcz41_1
          try clear hcz41_2
          try clear hcz41_3
          try clear hcz42_0
          try clear hcz42_1
          try clear hcz42_2
          try clear hcz44_0
          try clear hcz44_1
          try clear hcz44_2
          try clear hcz47_0
          try clear hcz47_1
          try clear hcz47_2
          try clear hcz47_3
          try clear hcz48_0
          try clear hcz48_1
          try clear hcz48_2
          try clear hcz50_0
          try clear hcz50_1
          try clear hcz50_2
          try clear hfz13_0
          try clear hfz13_1
          try clear hfz13_2
          try clear hfz13_3
          try clear hfz15_0
          try clear hfz15_1
          try clear hfz15_2
          try clear hfz18_0
          try clear hfz18_1
          try clear hfz18_2
          try clear hfz18_3
          try clear hfz26_0
          try clear hfz26_1
          try clear hfz26_2
          try clear hfz26_3
          try clear hfz27_0
          try clear hfz27_1
          try clear hfz27_2
          try clear hfz29_0
          try clear hfz29_1
          try clear hfz29_2
          try clear hfz29_3
          try clear hfz30_0
          try clear hfz30_1
          try clear hfz30_2
          try clear hfz35_0
          try clear hfz35_1
          try clear hfz35_2
          try clear hfz35_3
          try clear hfz36_0
          try clear hfz36_1
          try clear hfz36_2
          try clear hfz41_0
          try clear hfz41_1
          try clear hfz41_2
          try clear hfz41_3
          try clear hfz42_0
          try clear hfz42_1
          try clear hfz42_2
          try clear hfz44_0
          try clear hfz44_1
          try clear hfz44_2
          try clear hfz47_0
          try clear hfz47_1
          try clear hfz47_2
          try clear hfz47_3
          try clear hfz48_0
          try clear hfz48_1
          try clear hfz48_2
          try clear hfz50_0
          try clear hfz50_1
          try clear hfz50_2
          try clear p2
          obtain ⟨kq, x63_23, rfl, HA, HJ23, BK336, BK337, HB⟩ := hcut
          cases kq with
          | zero => exact absurd HA.out (by simp [spec_WantOf.j1])
          | succ kj23 =>
            have H := HA.out
            clear HA
            simp only [spec_WantOf.j1] at H
            by_cases c52 : x63_23 = true
            · subst c52
              have H1 : (some a0) = some r := by rw [if_pos rfl] at H; exact H
              clear H
              have H := H1
              clear H1
              obtain rfl := Option.some.inj H
              go_wp2
              go_ret
              exact ⟨by first | rfl | (simp [errW_none, errW_some] <;> rfl) | (simp [*, errW_none, errW_some] <;> rfl), by repeat (first | (with_reducible first | exact HB.out | apply below_alloc | apply pw_below_drewN | apply below_drew1 | refine below_set ?_ GE336.out | refine below_set ?_ GE337.out) | exact HB.out)⟩
            · replace c52 := Bool.eq_false_iff.mpr c52
              subst c52
              have H1 : ((spec_CeilDiv.f t341 a2_1).bind fun t347 => (if t347 > 1000 then (if t344 = 1 then (if 1000 < a0 then (some a0) else (if t344 = (-1) then (if 1000 > a0 then (some a0) else (some 1000)) else (some 1000))) else (if t344 = (-1) then (if 1000 > a0 then (some a0) else (some 1000)) else (some 1000))) else (if t344 = 1 then (if t347 < a0 then (some a0) else (if t344 = (-1) then (if t347 > a0 then (some a0) else (some t347)) else (some t347))) else (if t344 = (-1) then (if t347 > a0 then (some a0) else (some t347)) else (some t347))))) = some r := by rw [if_neg (show ¬ (false = true) by decide)] at H; exact H
              clear H
              have H := H1
              clear H1
              replace H := Option.bind_eq_some_iff.mp H
              obtain ⟨t347, A530, H⟩ := H
              replace H : (if t347 > 1000 then (if t344 = 1 then (if 1000 < a0 then (some a0) else (if t344 = (-1) then (if 1000 > a0 then (some a0) else (some 1000)) else (some 1000))) else (if t344 = (-1) then (if 1000 > a0 then (some a0) else (some 1000)) else (some 1000))) else (if t344 = 1 then (if t347 < a0 then (some a0) else (if t344 = (-1) then (if t347 > a0 then (some a0) else (some t347)) else (some t347))) else (if t344 = (-1) then (if t347 > a0 then (some a0) else (some t347)) else (some t347)))) = some r := H
              have A53 := Aside0.mk A530
              clear A530
              by_cases c54 : t347 > 1000
              · rw [if_pos c54] at H
                have c54b0 : decide (1000 < t347) = true := decide_eq_true c54
                clear c54
                by_cases c55 : t344 = 1
                · rw [if_pos c55] at H
                  have c55b0 : (t344 == 1) = true := beq_iff_eq.mpr c55
                  have c55b1 : (t344 != 1) = false := bne_eq_false_iff_eq.mpr c55
                  clear c55
                  by_cases c56 : 1000 < a0
                  · rw [if_pos c56] at H
                    have c56b0 : decide (1000 < a0) = true := decide_eq_true c56
                    clear c56
                    obtain rfl := Option.some.inj H
                    have hnb57 := NB337_336.out
                    have hnc57 := NB336_337.out
                    obtain ⟨hcz58_0, hcz58_1, hcz58_2, hfz58_0, hfz58_1, hfz58_2⟩ := blk3 BK337.out
                    go_wp2_with (first | ((with_reducible refine gate_callee (f := 70) rfl ?_); refine goesL_ (some 68) rfl rfl Try.func70 (by kernel_rfl) rfl #[.int .i64 t341, .int .i64 a2_1] rfl (by (try simp only [List.map_toArray, List.map_cons, List.map_nil]); first | done | rfl | (simp only [List.length_drop, List.length_take]; rfl)) ?_; (with_reducible refine (spec_CeilDiv.calls t341 a2_1 t347 _ A53.out).mono ?_); rintro e w' ⟨rfl, ⟨nd, rfl⟩⟩; refine ⟨_, rfl, ?_⟩))
                    go_ret
                    exact ⟨by first | rfl | (simp [errW_none, errW_some] <;> rfl) | (simp [*, errW_none, errW_some] <;> rfl), by repeat (first | (with_reducible first | exact HB.out | apply below_alloc | apply pw_below_drewN | apply below_drew1 | refine below_set ?_ GE336.out | refine below_set ?_ GE337.out) | exact HB.out)⟩
                  · rw [if_neg c56] at H
                    have c56b0 : decide (1000 < a0) = false := decide_eq_false c56
                    clear c56
                    by_cases c59 : t344 = (-1)
                    · rw [if_pos c59] at H
                      have c59b0 : (t344 == (-1)) = true := beq_iff_eq.mpr c59
                      have c59b1 : (t344 != (-1)) = false := bne_eq_false_iff_eq.mpr c59
                      clear c59
                      by_cases c60 : 1000 > a0
                      · rw [if_pos c60] at H
                        have c60b0 : decide (a0 < 1000) = true := decide_eq_true c60
                        clear c60
                        obtain rfl := Option.some.inj H
                        have hnb61 := NB337_336.out
                        have hnc61 := NB336_337.out
                        obtain ⟨hcz62_0, hcz62_1, hcz62_2, hfz62_0, hfz62_1, hfz62_2⟩ := blk3 BK337.out
                        go_wp2_with (first | ((with_reducible refine gate_callee (f := 70) rfl ?_); refine goesL_ (some 68) rfl rfl Try.func70 (by kernel_rfl) rfl #[.int .i64 t341, .int .i64 a2_1] rfl (by (try simp only [List.map_toArray, List.map_cons, List.map_nil]); first | done | rfl | (simp only [List.length_drop, List.length_take]; rfl)) ?_; (with_reducible refine (spec_CeilDiv.calls t341 a2_1 t347 _ A53.out).mono ?_); rintro e w' ⟨rfl, ⟨nd, rfl⟩⟩; refine ⟨_, rfl, ?_⟩))
                        go_ret
                        exact ⟨by first | rfl | (simp [errW_none, errW_some] <;> rfl) | (simp [*, errW_none, errW_some] <;> rfl), by repeat (first | (with_reducible first | exact HB.out | apply below_alloc | apply pw_below_drewN | apply below_drew1 | refine below_set ?_ GE336.out | refine below_set ?_ GE337.out) | exact HB.out)⟩
                      · rw [if_neg c60] at H
                        have c60b0 : decide (a0 < 1000) = false := decide_eq_false c60
                        clear c60
                        obtain rfl := Option.some.inj H
                        have hnb63 := NB337_336.out
                        have hnc63 := NB336_337.out
                        obtain ⟨hcz64_0, hcz64_1, hcz64_2, hfz64_0, hfz64_1, hfz64_2⟩ := blk3 BK337.out
                        go_wp2_with (first | ((with_reducible refine gate_callee (f := 70) rfl ?_); refine goesL_ (some 68) rfl rfl Try.func70 (by kernel_rfl) rfl #[.int .i64 t341, .int .i64 a2_1] rfl (by (try simp only [List.map_toArray, List.map_cons, List.map_nil]); first | done | rfl | (simp only [List.length_drop, List.length_take]; rfl)) ?_; (with_reducible refine (spec_CeilDiv.calls t341 a2_1 t347 _ A53.out).mono ?_); rintro e w' ⟨rfl, ⟨nd, rfl⟩⟩; refine ⟨_, rfl, ?_⟩))
                        go_ret
                        exact ⟨by first | rfl | (simp [errW_none, errW_some] <;> rfl) | (simp [*, errW_none, errW_some] <;> rfl), by repeat (first | (with_reducible first | exact HB.out | apply below_alloc | apply pw_below_drewN | apply below_drew1 | refine below_set ?_ GE336.out | refine below_set ?_ GE337.out) | exact HB.out)⟩
                    · rw [if_neg c59] at H
                      have c59b0 : (t344 == (-1)) = false := beq_eq_false_iff_ne.mpr c59
                      have c59b1 : (t344 != (-1)) = true := bne_iff_ne.mpr c59
                      obtain rfl := Option.some.inj H
                      have hnb65 := NB337_336.out
                      have hnc65 := NB336_337.out
                      obtain ⟨hcz66_0, hcz66_1, hcz66_2, hfz66_0, hfz66_1, hfz66_2⟩ := blk3 BK337.out
                      go_wp2_with (first | ((with_reducible refine gate_callee (f := 70) rfl ?_); refine goesL_ (some 68) rfl rfl Try.func70 (by kernel_rfl) rfl #[.int .i64 t341, .int .i64 a2_1] rfl (by (try simp only [List.map_toArray, List.map_cons, List.map_nil]); first | done | rfl | (simp only [List.length_drop, List.length_take]; rfl)) ?_; (with_reducible refine (spec_CeilDiv.calls t341 a2_1 t347 _ A53.out).mono ?_); rintro e w' ⟨rfl, ⟨nd, rfl⟩⟩; refine ⟨_, rfl, ?_⟩))
                      go_ret
                      exact ⟨by first | rfl | (simp [errW_none, errW_some] <;> rfl) | (simp [*, errW_none, errW_some] <;> rfl), by repeat (first | (with_reducible first | exact HB.out | apply below_alloc | apply pw_below_drewN | apply below_drew1 | refine below_set ?_ GE336.out | refine below_set ?_ GE337.out) | exact HB.out)⟩
                · rw [if_neg c55] at H
                  have c55b0 : (t344 == 1) = false := beq_eq_false_iff_ne.mpr c55
                  have c55b1 : (t344 != 1) = true := bne_iff_ne.mpr c55
                  by_cases c67 : t344 = (-1)
                  · rw [if_pos c67] at H
                    have c67b0 : (t344 == (-1)) = true := beq_iff_eq.mpr c67
                    have c67b1 : (t344 != (-1)) = false := bne_eq_false_iff_eq.mpr c67
                    clear c67
                    by_cases c68 : 1000 > a0
                    · rw [if_pos c68] at H
                      have c68b0 : decide (a0 < 1000) = true := decide_eq_true c68
                      clear c68
                      obtain rfl := Option.some.inj H
                      have hnb69 := NB337_336.out
                      have hnc69 := NB336_337.out
                      obtain ⟨hcz70_0, hcz70_1, hcz70_2, hfz70_0, hfz70_1, hfz70_2⟩ := blk3 BK337.out
                      go_wp2_with (first | ((with_reducible refine gate_callee (f := 70) rfl ?_); refine goesL_ (some 68) rfl rfl Try.func70 (by kernel_rfl) rfl #[.int .i64 t341, .int .i64 a2_1] rfl (by (try simp only [List.map_toArray, List.map_cons, List.map_nil]); first | done | rfl | (simp only [List.length_drop, List.length_take]; rfl)) ?_; (with_reducible refine (spec_CeilDiv.calls t341 a2_1 t347 _ A53.out).mono ?_); rintro e w' ⟨rfl, ⟨nd, rfl⟩⟩; refine ⟨_, rfl, ?_⟩))
                      go_ret
                      exact ⟨by first | rfl | (simp [errW_none, errW_some] <;> rfl) | (simp [*, errW_none, errW_some] <;> rfl), by repeat (first | (with_reducible first | exact HB.out | apply below_alloc | apply pw_below_drewN | apply below_drew1 | refine below_set ?_ GE336.out | refine below_set ?_ GE337.out) | exact HB.out)⟩
                    · rw [if_neg c68] at H
                      have c68b0 : decide (a0 < 1000) = false := decide_eq_false c68
                      clear c68
                      obtain rfl := Option.some.inj H
                      have hnb71 := NB337_336.out
                      have hnc71 := NB336_337.out
                      obtain ⟨hcz72_0, hcz72_1, hcz72_2, hfz72_0, hfz72_1, hfz72_2⟩ := blk3 BK337.out
                      go_wp2_with (first | ((with_reducible refine gate_callee (f := 70) rfl ?_); refine goesL_ (some 68) rfl rfl Try.func70 (by kernel_rfl) rfl #[.int .i64 t341, .int .i64 a2_1] rfl (by (try simp only [List.map_toArray, List.map_cons, List.map_nil]); first | done | rfl | (simp only [List.length_drop, List.length_take]; rfl)) ?_; (with_reducible refine (spec_CeilDiv.calls t341 a2_1 t347 _ A53.out).mono ?_); rintro e w' ⟨rfl, ⟨nd, rfl⟩⟩; refine ⟨_, rfl, ?_⟩))
                      go_ret
                      exact ⟨by first | rfl | (simp [errW_none, errW_some] <;> rfl) | (simp [*, errW_none, errW_some] <;> rfl), by repeat (first | (with_reducible first | exact HB.out | apply below_alloc | apply pw_below_drewN | apply below_drew1 | refine below_set ?_ GE336.out | refine below_set ?_ GE337.out) | exact HB.out)⟩
                  · rw [if_neg c67] at H
                    have c67b0 : (t344 == (-1)) = false := beq_eq_false_iff_ne.mpr c67
                    have c67b1 : (t344 != (-1)) = true := bne_iff_ne.mpr c67
                    obtain rfl := Option.some.inj H
                    have hnb73 := NB337_336.out
                    have hnc73 := NB336_337.out
                    obtain ⟨hcz74_0, hcz74_1, hcz74_2, hfz74_0, hfz74_1, hfz74_2⟩ := blk3 BK337.out
                    go_wp2_with (first | ((with_reducible refine gate_callee (f := 70) rfl ?_); refine goesL_ (some 68) rfl rfl Try.func70 (by kernel_rfl) rfl #[.int .i64 t341, .int .i64 a2_1] rfl (by (try simp only [List.map_toArray, List.map_cons, List.map_nil]); first | done | rfl | (simp only [List.length_drop, List.length_take]; rfl)) ?_; (with_reducible refine (spec_CeilDiv.calls t341 a2_1 t347 _ A53.out).mono ?_); rintro e w' ⟨rfl, ⟨nd, rfl⟩⟩; refine ⟨_, rfl, ?_⟩))
                    go_ret
                    exact ⟨by first | rfl | (simp [errW_none, errW_some] <;> rfl) | (simp [*, errW_none, errW_some] <;> rfl), by repeat (first | (with_reducible first | exact HB.out | apply below_alloc | apply pw_below_drewN | apply below_drew1 | refine below_set ?_ GE336.out | refine below_set ?_ GE337.out) | exact HB.out)⟩
              · rw [if_neg c54] at H
                have c54b0 : decide (1000 < t347) = false := decide_eq_false c54
                clear c54
                by_cases c75 : t344 = 1
                · rw [if_pos c75] at H
                  have c75b0 : (t344 == 1) = true := beq_iff_eq.mpr c75
                  have c75b1 : (t344 != 1) = false := bne_eq_false_iff_eq.mpr c75
                  clear c75
                  by_cases c76 : t347 < a0
                  · rw [if_pos c76] at H
                    have c76b0 : decide (t347 < a0) = true := decide_eq_true c76
                    clear c76
                    obtain rfl := Option.some.inj H
                    have hnb77 := NB337_336.out
                    have hnc77 := NB336_337.out
                    obtain ⟨hcz78_0, hcz78_1, hcz78_2, hfz78_0, hfz78_1, hfz78_2⟩ := blk3 BK337.out
                    go_wp2_with (first | ((with_reducible refine gate_callee (f := 70) rfl ?_); refine goesL_ (some 68) rfl rfl Try.func70 (by kernel_rfl) rfl #[.int .i64 t341, .int .i64 a2_1] rfl (by (try simp only [List.map_toArray, List.map_cons, List.map_nil]); first | done | rfl | (simp only [List.length_drop, List.length_take]; rfl)) ?_; (with_reducible refine (spec_CeilDiv.calls t341 a2_1 t347 _ A53.out).mono ?_); rintro e w' ⟨rfl, ⟨nd, rfl⟩⟩; refine ⟨_, rfl, ?_⟩))
                    go_ret
                    exact ⟨by first | rfl | (simp [errW_none, errW_some] <;> rfl) | (simp [*, errW_none, errW_some] <;> rfl), by repeat (first | (with_reducible first | exact HB.out | apply below_alloc | apply pw_below_drewN | apply below_drew1 | refine below_set ?_ GE336.out | refine below_set ?_ GE337.out) | exact HB.out)⟩
                  · rw [if_neg c76] at H
                    have c76b0 : decide (t347 < a0) = false := decide_eq_false c76
                    clear c76
                    by_cases c79 : t344 = (-1)
                    · rw [if_pos c79] at H
                      have c79b0 : (t344 == (-1)) = true := beq_iff_eq.mpr c79
                      have c79b1 : (t344 != (-1)) = false := bne_eq_false_iff_eq.mpr c79
                      clear c79
                      by_cases c80 : t347 > a0
                      · rw [if_pos c80] at H
                        have c80b0 : decide (a0 < t347) = true := decide_eq_true c80
                        clear c80
                        obtain rfl := Option.some.inj H
                        have hnb81 := NB337_336.out
                        have hnc81 := NB336_337.out
                        obtain ⟨hcz82_0, hcz82_1, hcz82_2, hfz82_0, hfz82_1, hfz82_2⟩ := blk3 BK337.out
                        go_wp2_with (first | ((with_reducible refine gate_callee (f := 70) rfl ?_); refine goesL_ (some 68) rfl rfl Try.func70 (by kernel_rfl) rfl #[.int .i64 t341, .int .i64 a2_1] rfl (by (try simp only [List.map_toArray, List.map_cons, List.map_nil]); first | done | rfl | (simp only [List.length_drop, List.length_take]; rfl)) ?_; (with_reducible refine (spec_CeilDiv.calls t341 a2_1 t347 _ A53.out).mono ?_); rintro e w' ⟨rfl, ⟨nd, rfl⟩⟩; refine ⟨_, rfl, ?_⟩))
                        go_ret
                        exact ⟨by first | rfl | (simp [errW_none, errW_some] <;> rfl) | (simp [*, errW_none, errW_some] <;> rfl), by repeat (first | (with_reducible first | exact HB.out | apply below_alloc | apply pw_below_drewN | apply below_drew1 | refine below_set ?_ GE336.out | refine below_set ?_ GE337.out) | exact HB.out)⟩
                      · rw [if_neg c80] at H
                        have c80b0 : decide (a0 < t347) = false := decide_eq_false c80
                        clear c80
                        obtain rfl := Option.some.inj H
                        have hnb83 := NB337_336.out
                        have hnc83 := NB336_337.out
                        obtain ⟨hcz84_0, hcz84_1, hcz84_2, hfz84_0, hfz84_1, hfz84_2⟩ := blk3 BK337.out
                        go_wp2_with (first | ((with_reducible refine gate_callee (f := 70) rfl ?_); refine goesL_ (some 68) rfl rfl Try.func70 (by kernel_rfl) rfl #[.int .i64 t341, .int .i64 a2_1] rfl (by (try simp only [List.map_toArray, List.map_cons, List.map_nil]); first | done | rfl | (simp only [List.length_drop, List.length_take]; rfl)) ?_; (with_reducible refine (spec_CeilDiv.calls t341 a2_1 t347 _ A53.out).mono ?_); rintro e w' ⟨rfl, ⟨nd, rfl⟩⟩; refine ⟨_, rfl, ?_⟩))
                        go_ret
                        exact ⟨by first | rfl | (simp [errW_none, errW_some] <;> rfl) | (simp [*, errW_none, errW_some] <;> rfl), by repeat (first | (with_reducible first | exact HB.out | apply below_alloc | apply pw_below_drewN | apply below_drew1 | refine below_set ?_ GE336.out | refine below_set ?_ GE337.out) | exact HB.out)⟩
                    · rw [if_neg c79] at H
                      have c79b0 : (t344 == (-1)) = false := beq_eq_false_iff_ne.mpr c79
                      have c79b1 : (t344 != (-1)) = true := bne_iff_ne.mpr c79
                      obtain rfl := Option.some.inj H
                      have hnb85 := NB337_336.out
                      have hnc85 := NB336_337.out
                      obtain ⟨hcz86_0, hcz86_1, hcz86_2, hfz86_0, hfz86_1, hfz86_2⟩ := blk3 BK337.out
                      go_wp2_with (first | ((with_reducible refine gate_callee (f := 70) rfl ?_); refine goesL_ (some 68) rfl rfl Try.func70 (by kernel_rfl) rfl #[.int .i64 t341, .int .i64 a2_1] rfl (by (try simp only [List.map_toArray, List.map_cons, List.map_nil]); first | done | rfl | (simp only [List.length_drop, List.length_take]; rfl)) ?_; (with_reducible refine (spec_CeilDiv.calls t341 a2_1 t347 _ A53.out).mono ?_); rintro e w' ⟨rfl, ⟨nd, rfl⟩⟩; refine ⟨_, rfl, ?_⟩))
                      go_ret
                      exact ⟨by first | rfl | (simp [errW_none, errW_some] <;> rfl) | (simp [*, errW_none, errW_some] <;> rfl), by repeat (first | (with_reducible first | exact HB.out | apply below_alloc | apply pw_below_drewN | apply below_drew1 | refine below_set ?_ GE336.out | refine below_set ?_ GE337.out) | exact HB.out)⟩
                · rw [if_neg c75] at H
                  have c75b0 : (t344 == 1) = false := beq_eq_false_iff_ne.mpr c75
                  have c75b1 : (t344 != 1) = true := bne_iff_ne.mpr c75
                  by_cases c87 : t344 = (-1)
                  · rw [if_pos c87] at H
                    have c87b0 : (t344 == (-1)) = true := beq_iff_eq.mpr c87
                    have c87b1 : (t344 != (-1)) = false := bne_eq_false_iff_eq.mpr c87
                    clear c87
                    by_cases c88 : t347 > a0
                    · rw [if_pos c88] at H
                      have c88b0 : decide (a0 < t347) = true := decide_eq_true c88
                      clear c88
                      obtain rfl := Option.some.inj H
                      have hnb89 := NB337_336.out
                      have hnc89 := NB336_337.out
                      obtain ⟨hcz90_0, hcz90_1, hcz90_2, hfz90_0, hfz90_1, hfz90_2⟩ := blk3 BK337.out
                      go_wp2_with (first | ((with_reducible refine gate_callee (f := 70) rfl ?_); refine goesL_ (some 68) rfl rfl Try.func70 (by kernel_rfl) rfl #[.int .i64 t341, .int .i64 a2_1] rfl (by (try simp only [List.map_toArray, List.map_cons, List.map_nil]); first | done | rfl | (simp only [List.length_drop, List.length_take]; rfl)) ?_; (with_reducible refine (spec_CeilDiv.calls t341 a2_1 t347 _ A53.out).mono ?_); rintro e w' ⟨rfl, ⟨nd, rfl⟩⟩; refine ⟨_, rfl, ?_⟩))
                      go_ret
                      exact ⟨by first | rfl | (simp [errW_none, errW_some] <;> rfl) | (simp [*, errW_none, errW_some] <;> rfl), by repeat (first | (with_reducible first | exact HB.out | apply below_alloc | apply pw_below_drewN | apply below_drew1 | refine below_set ?_ GE336.out | refine below_set ?_ GE337.out) | exact HB.out)⟩
                    · rw [if_neg c88] at H
                      have c88b0 : decide (a0 < t347) = false := decide_eq_false c88
                      clear c88
                      obtain rfl := Option.some.inj H
                      have hnb91 := NB337_336.out
                      have hnc91 := NB336_337.out
                      obtain ⟨hcz92_0, hcz92_1, hcz92_2, hfz92_0, hfz92_1, hfz92_2⟩ := blk3 BK337.out
                      go_wp2_with (first | ((with_reducible refine gate_callee (f := 70) rfl ?_); refine goesL_ (some 68) rfl rfl Try.func70 (by kernel_rfl) rfl #[.int .i64 t341, .int .i64 a2_1] rfl (by (try simp only [List.map_toArray, List.map_cons, List.map_nil]); first | done | rfl | (simp only [List.length_drop, List.length_take]; rfl)) ?_; (with_reducible refine (spec_CeilDiv.calls t341 a2_1 t347 _ A53.out).mono ?_); rintro e w' ⟨rfl, ⟨nd, rfl⟩⟩; refine ⟨_, rfl, ?_⟩))
                      go_ret
                      exact ⟨by first | rfl | (simp [errW_none, errW_some] <;> rfl) | (simp [*, errW_none, errW_some] <;> rfl), by repeat (first | (with_reducible first | exact HB.out | apply below_alloc | apply pw_below_drewN | apply below_drew1 | refine below_set ?_ GE336.out | refine below_set ?_ GE337.out) | exact HB.out)⟩
                  · rw [if_neg c87] at H
                    have c87b0 : (t344 == (-1)) = false := beq_eq_false_iff_ne.mpr c87
                    have c87b1 : (t344 != (-1)) = true := bne_iff_ne.mpr c87
                    obtain rfl := Option.some.inj H
                    have hnb93 := NB337_336.out
                    have hnc93 := NB336_337.out
                    obtain ⟨hcz94_0, hcz94_1, hcz94_2, hfz94_0, hfz94_1, hfz94_2⟩ := blk3 BK337.out
                    go_wp2_with (first | ((with_reducible refine gate_callee (f := 70) rfl ?_); refine goesL_ (some 68) rfl rfl Try.func70 (by kernel_rfl) rfl #[.int .i64 t341, .int .i64 a2_1] rfl (by (try simp only [List.map_toArray, List.map_cons, List.map_nil]); first | done | rfl | (simp only [List.length_drop, List.length_take]; rfl)) ?_; (with_reducible refine (spec_CeilDiv.calls t341 a2_1 t347 _ A53.out).mono ?_); rintro e w' ⟨rfl, ⟨nd, rfl⟩⟩; refine ⟨_, rfl, ?_⟩))
                    go_ret
                    exact ⟨by first | rfl | (simp [errW_none, errW_some] <;> rfl) | (simp [*, errW_none, errW_some] <;> rfl), by repeat (first | (with_reducible first | exact HB.out | apply below_alloc | apply pw_below_drewN | apply below_drew1 | refine below_set ?_ GE336.out | refine below_set ?_ GE337.out) | exact HB.out)⟩

end Go.Proofs.Yteghfiladifjpaa.PFnMissing
