-- PRINTED BY print.sh 35421559b90ae4d0a3588c463048766b98c2df88dd9212a6774a882060cdf62d: not written by this session
import Derived.Test.YtpoabjpglfbolaaPFnExactWantOfx0
import Derived.Test.YtpoabjpglfbolaaPFnExactWantOfx1
import Derived.Test.YtpoabjpglfbolaaPFnExactWantOfx2
namespace Go.Proofs.Ytpoabjpglfbolaa.PFnExactWantOf
open Go.RowKit Go.Proofs.YtpoabjpglfbolaaW.PrintWords Go.Proofs.YtpoabjpglfbolaaW.PrintLast Go.Proofs.YtpoabjpglfbolaaW.PrintMore
attribute [local go_sem] max2_int min2_int max_two min_two max_three min_three max_four min_four   -- for this text's walks alone
set_option linter.unusedVariables false
set_option linter.unusedSimpArgs false

/-! ### spec_WantOf: function 20 -/
mutual
def spec_WantOf.j0 : Nat → Int → Bool → Int → Int → Int → Int → ByteArray → Int → Int → Option (Int)
  | 0, _, _, _, _, _, _, _, _, _ => none
  | k + 1, x0, x24, x136000, x136001, x136002, x136003, x137000, x137001, x137002 => if x24 = true then (some (-1)) else ((spec_RefillOf.f k x136000 x136001 x136002 x136003 x137000 x137001 x137002).bind fun bt140 => ((spec_RatioSign.f k x136003 x136000 x137001).bind fun t142 => ((spec_RatioSign.f k bt140.1 bt140.2 x137001).bind fun t143 => (if x0 = 0 then (spec_WantOf.j1 k x0 bt140.1 t143 true x137000 x137001 x137002) else ((spec_InBand.f k x136003 x136000 x137000 x137001 x137002).bind fun t144 => (if t144 = true then (spec_WantOf.j1 k x0 bt140.1 t143 true x137000 x137001 x137002) else ((spec_InBand.f k bt140.1 bt140.2 x137000 x137001 x137002).bind fun t145 => (if t145 = true then (spec_WantOf.j1 k x0 bt140.1 t143 true x137000 x137001 x137002) else (spec_WantOf.j1 k x0 bt140.1 t143 (t142 != t143) x137000 x137001 x137002)))))))))
def spec_WantOf.j1 : Nat → Int → Int → Int → Bool → ByteArray → Int → Int → Option (Int)
  | 0, _, _, _, _, _, _, _ => none
  | k + 1, x0, x7, x10, x63, x137000, x137001, x137002 => if x63 = true then (some x0) else ((spec_CeilDiv.f x7 x137001).bind fun t146 => (if t146 > 1000 then (if x10 = 1 then (if 1000 < x0 then (some x0) else (if x10 = (-1) then (if 1000 > x0 then (some x0) else (some 1000)) else (some 1000))) else (if x10 = (-1) then (if 1000 > x0 then (some x0) else (some 1000)) else (some 1000))) else (if x10 = 1 then (if t146 < x0 then (some x0) else (if x10 = (-1) then (if t146 > x0 then (some x0) else (some t146)) else (some t146))) else (if x10 = (-1) then (if t146 > x0 then (some x0) else (some t146)) else (some t146)))))
end
def spec_WantOf.f (k : Nat) (a0 : Int) (a1_0 : Int) (a1_1 : Int) (a1_2 : Int) (a1_3 : Int) (a2_0 : ByteArray) (a2_1 : Int) (a2_2 : Int) : Option (Int) := (spec_l05Count.f a0).bind fun t137 => (if t137 = true then ((spec_l05Usable.f a1_0 a1_1 a1_2 a1_3).bind fun t138 => (if t138 = true then ((spec_GoalOk.f k a2_0 a2_1 a2_2).bind fun t139 => (spec_WantOf.j0 k a0 (!t139) a1_0 a1_1 a1_2 a1_3 a2_0 a2_1 a2_2)) else (spec_WantOf.j0 k a0 true a1_0 a1_1 a1_2 a1_3 a2_0 a2_1 a2_2))) else (spec_WantOf.j0 k a0 true a1_0 a1_1 a1_2 a1_3 a2_0 a2_1 a2_2))
theorem spec_WantOf.mono_l : ∀ k, (∀ y0 y1 y2 y3 y4 y5 y6 y7 y8, LeO (spec_WantOf.j0 k y0 y1 y2 y3 y4 y5 y6 y7 y8) (spec_WantOf.j0 (k + 1) y0 y1 y2 y3 y4 y5 y6 y7 y8)) ∧ (∀ y0 y1 y2 y3 y4 y5 y6, LeO (spec_WantOf.j1 k y0 y1 y2 y3 y4 y5 y6) (spec_WantOf.j1 (k + 1) y0 y1 y2 y3 y4 y5 y6))
  | 0 => ⟨fun _ _ _ _ _ _ _ _ _ r h => by simp [spec_WantOf.j0] at h, fun _ _ _ _ _ _ _ r h => by simp [spec_WantOf.j1] at h⟩
  | k + 1 => by
    obtain ⟨ih0, ih1⟩ := spec_WantOf.mono_l k
    refine ⟨?_, ?_⟩
    · intro y0 y1 y2 y3 y4 y5 y6 y7 y8
      unfold spec_WantOf.j0
      repeat' first
      | (with_reducible exact ih0 _ _ _ _ _ _ _ _ _)
      | (with_reducible exact ih1 _ _ _ _ _ _ _)
      | (with_reducible exact spec_GoalOk.mono _ _ _ _)
      | (with_reducible exact spec_InBand.mono _ _ _ _ _ _)
      | (with_reducible exact spec_RatioSign.mono _ _ _ _)
      | (with_reducible exact spec_RefillOf.mono _ _ _ _ _ _ _ _)
      | (with_reducible exact LeO.refl _)
      | (with_reducible exact LeO.none _)
      | (with_reducible refine LeO.ite ?_ ?_)
      | (with_reducible refine LeO.bind ?_ (fun _ => ?_))
      | exact ih0 _ _ _ _ _ _ _ _ _
      | exact ih1 _ _ _ _ _ _ _
      | exact spec_GoalOk.mono _ _ _ _
      | exact spec_InBand.mono _ _ _ _ _ _
      | exact spec_RatioSign.mono _ _ _ _
      | exact spec_RefillOf.mono _ _ _ _ _ _ _ _
      | exact LeO.none _
      | refine LeO.ite ?_ ?_
      | refine LeO.bind ?_ (fun _ => ?_)
    · intro y0 y1 y2 y3 y4 y5 y6
      unfold spec_WantOf.j1
      repeat' first
      | (with_reducible exact ih0 _ _ _ _ _ _ _ _ _)
      | (with_reducible exact ih1 _ _ _ _ _ _ _)
      | (with_reducible exact spec_GoalOk.mono _ _ _ _)
      | (with_reducible exact spec_InBand.mono _ _ _ _ _ _)
      | (with_reducible exact spec_RatioSign.mono _ _ _ _)
      | (with_reducible exact spec_RefillOf.mono _ _ _ _ _ _ _ _)
      | (with_reducible exact LeO.refl _)
      | (with_reducible exact LeO.none _)
      | (with_reducible refine LeO.ite ?_ ?_)
      | (with_reducible refine LeO.bind ?_ (fun _ => ?_))
      | exact ih0 _ _ _ _ _ _ _ _ _
      | exact ih1 _ _ _ _ _ _ _
      | exact spec_GoalOk.mono _ _ _ _
      | exact spec_InBand.mono _ _ _ _ _ _
      | exact spec_RatioSign.mono _ _ _ _
      | exact spec_RefillOf.mono _ _ _ _ _ _ _ _
      | exact LeO.none _
      | refine LeO.ite ?_ ?_
      | refine LeO.bind ?_ (fun _ => ?_)
theorem spec_WantOf.mono : ∀ a0 a1 a2 a3 a4 a5 a6 a7 k, LeO (spec_WantOf.f k a0 a1 a2 a3 a4 a5 a6 a7) (spec_WantOf.f (k + 1) a0 a1 a2 a3 a4 a5 a6 a7) := by
  intro a0 a1 a2 a3 a4 a5 a6 a7 k
  obtain ⟨ih0, ih1⟩ := spec_WantOf.mono_l k
  unfold spec_WantOf.f
  repeat' first
      | (with_reducible exact ih0 _ _ _ _ _ _ _ _ _)
      | (with_reducible exact ih1 _ _ _ _ _ _ _)
      | (with_reducible exact spec_GoalOk.mono _ _ _ _)
      | (with_reducible exact spec_InBand.mono _ _ _ _ _ _)
      | (with_reducible exact spec_RatioSign.mono _ _ _ _)
      | (with_reducible exact spec_RefillOf.mono _ _ _ _ _ _ _ _)
      | (with_reducible exact LeO.refl _)
      | (with_reducible exact LeO.none _)
      | (with_reducible refine LeO.ite ?_ ?_)
      | (with_reducible refine LeO.bind ?_ (fun _ => ?_))
      | exact ih0 _ _ _ _ _ _ _ _ _
      | exact ih1 _ _ _ _ _ _ _
      | exact spec_GoalOk.mono _ _ _ _
      | exact spec_InBand.mono _ _ _ _ _ _
      | exact spec_RatioSign.mono _ _ _ _
      | exact spec_RefillOf.mono _ _ _ _ _ _ _ _
      | exact LeO.none _
      | refine LeO.ite ?_ ?_
      | refine LeO.bind ?_ (fun _ => ?_)
set_option maxHeartbeats 8000000 in
set_option maxRecDepth 100000 in
theorem spec_WantOf.calls (k : Nat) (a0 : Int) (a1_0 : Int) (a1_1 : Int) (a1_2 : Int) (a1_3 : Int) (a2_0 : ByteArray) (a2_1 : Int) (a2_2 : Int) (r : Int) (w : World) (h : spec_WantOf.f k a0 a1_0 a1_1 a1_2 a1_3 a2_0 a2_1 a2_2 = some r) :
    Calls Try.prog 20 #[.int .i64 a0, .agg #[.int .i64 a1_0, .int .i64 a1_1, .int .i64 a1_2, .int .i64 a1_3], .agg #[.string a2_0, .int .i64 a2_1, .int .i64 a2_2]] w fun e w' => e = .returned (.int .i64 r) ∧ Below w.heap.size w w' := by
  have hu36 := Try.underlying36
  have hu38 := Try.underlying38
  have HB := Aside0.mk (Below.refl w.heap.size w)
  have H : ((spec_l05Count.f a0).bind fun t137 => (if t137 = true then ((spec_l05Usable.f a1_0 a1_1 a1_2 a1_3).bind fun t138 => (if t138 = true then ((spec_GoalOk.f k a2_0 a2_1 a2_2).bind fun t139 => (spec_WantOf.j0 k a0 (!t139) a1_0 a1_1 a1_2 a1_3 a2_0 a2_1 a2_2)) else (spec_WantOf.j0 k a0 true a1_0 a1_1 a1_2 a1_3 a2_0 a2_1 a2_2))) else (spec_WantOf.j0 k a0 true a1_0 a1_1 a1_2 a1_3 a2_0 a2_1 a2_2))) = some r := h
  clear h
  have HC4 := Aside0.mk H
  clear H
  go_enter Try.func20, Try.ntmps20
  go_upto_region 1 with (first | ((with_reducible refine gate_dst (N := 4) rfl ?_); refine box_event ?hg (N := 4) ?hd (cs := #[.int .i64 a1_0, .int .i64 a1_1, .int .i64 a1_2, .int .i64 a1_3]) (t := 36) ?hr ?_; (case hd => rfl); (case hg => rfl); (case hr => first | (go_simp; done) | (go_simp; rfl)); intro gb135 hg w5 hbox hb; have n0_ := Aside0.mk (below_step (by repeat (first | (with_reducible first | exact HB.out | apply below_alloc | apply pw_below_drewN | apply below_drew1) | exact HB.out)) hb); have n1_ := Aside0.mk (hbox); have n2_ := Aside0.mk ((by rw [hg]; exact (below_size (by repeat (first | (with_reducible first | exact HB.out | apply below_alloc | apply pw_below_drewN | apply below_drew1) | exact HB.out))) : w.heap.size ≤ gb135)); have n3_ := Aside0.mk ((by rw [hg]; exact (below_size (by repeat (first | (with_reducible first | exact HB.out | apply below_alloc | apply pw_below_drewN | apply below_drew1) | exact HB.out))) : w.heap.size ≤ gb135)); clear HB; have HB := n0_; have BK135 := n1_; have GW135 := n2_; have GE135 := n3_; clear n0_ n1_ n2_ n3_; clear hb hbox hg) | ((with_reducible refine gate_dst (N := 5) rfl ?_); refine box_event ?hg (N := 5) ?hd (cs := #[.string a2_0, .int .i64 a2_1, .int .i64 a2_2]) (t := 38) ?hr ?_; (case hd => rfl); (case hg => rfl); (case hr => first | (go_simp; done) | (go_simp; rfl)); intro gb136 hg w6 hbox hb; have n0_ := Aside0.mk (blk_below (g := gb135) (o := .cells #[.int .i64 a1_0, .int .i64 a1_1, .int .i64 a1_2, .int .i64 a1_3] 36 (0, 0)) (by (with_reducible repeat (first | refine blk_drewN ?_ _ | refine blk_drew ?_ | refine blk_alloc ?_ _)); exact BK135.out) hb); have n1_ := Aside0.mk (below_step (by repeat (first | (with_reducible first | exact HB.out | apply below_alloc | apply pw_below_drewN | apply below_drew1 | refine below_set ?_ GE135.out) | exact HB.out)) hb); have n2_ := Aside0.mk (hbox); have n3_ := Aside0.mk ((by rw [hg]; exact (below_size (by repeat (first | (with_reducible first | exact HB.out | apply below_alloc | apply pw_below_drewN | apply below_drew1 | refine below_set ?_ GE135.out) | exact HB.out))) : w.heap.size ≤ gb136)); have n4_ := Aside0.mk ((by rw [hg]; exact (below_size (by repeat (first | (with_reducible first | exact HB.out | apply below_alloc | apply pw_below_drewN | apply below_drew1 | refine below_set ?_ GE135.out) | exact HB.out))) : w.heap.size ≤ gb136)); have n5_ := Aside0.mk ((by rw [hg]; exact Nat.ne_of_lt (blk_lt (g := gb135) (o := .cells #[.int .i64 a1_0, .int .i64 a1_1, .int .i64 a1_2, .int .i64 a1_3] 36 (0, 0)) (by (with_reducible repeat (first | refine blk_drewN ?_ _ | refine blk_drew ?_ | refine blk_alloc ?_ _)); exact BK135.out)) : gb135 ≠ gb136)); have n6_ := Aside0.mk ((by rw [hg]; exact Nat.ne_of_gt (blk_lt (g := gb135) (o := .cells #[.int .i64 a1_0, .int .i64 a1_1, .int .i64 a1_2, .int .i64 a1_3] 36 (0, 0)) (by (with_reducible repeat (first | refine blk_drewN ?_ _ | refine blk_drew ?_ | refine blk_alloc ?_ _)); exact BK135.out)) : gb136 ≠ gb135)); clear BK135; clear HB; have BK135 := n0_; have HB := n1_; have BK136 := n2_; have GW136 := n3_; have GE136 := n4_; have NB135_136 := n5_; have NB136_135 := n6_; clear n0_ n1_ n2_ n3_ n4_ n5_ n6_; clear hb hbox hg))
  (try simp only [Act.put, List.setIfInBounds_toArray, List.set_cons_zero, List.set_cons_succ])
  go_cut [24] (fun v24 wc => ∃ (kq : Nat) (x24_3 : Bool), v24 = .bool x24_3 ∧ Aside0 (spec_WantOf.j0 kq a0 x24_3 a1_0 a1_1 a1_2 a1_3 a2_0 a2_1 a2_2 = some r) ∧ Aside0 (kq ≤ k) ∧ Aside0 (wc.heap[gb135]? = some (.cells #[.int .i64 a1_0, .int .i64 a1_1, .int .i64 a1_2, .int .i64 a1_3] 36 (0, 0))) ∧ Aside0 (wc.heap[gb136]? = some (.cells #[.string a2_0, .int .i64 a2_1, .int .i64 a2_2] 38 (0, 0))) ∧ Aside0 (Below w.heap.size w wc))
  case first =>
    have H := HC4.out
    clear HC4
    replace H := Option.bind_eq_some_iff.mp H
    obtain ⟨t137, A70, H⟩ := H
    replace H : (if t137 = true then ((spec_l05Usable.f a1_0 a1_1 a1_2 a1_3).bind fun t138 => (if t138 = true then ((spec_GoalOk.f k a2_0 a2_1 a2_2).bind fun t139 => (spec_WantOf.j0 k a0 (!t139) a1_0 a1_1 a1_2 a1_3 a2_0 a2_1 a2_2)) else (spec_WantOf.j0 k a0 true a1_0 a1_1 a1_2 a1_3 a2_0 a2_1 a2_2))) else (spec_WantOf.j0 k a0 true a1_0 a1_1 a1_2 a1_3 a2_0 a2_1 a2_2)) = some r := H
    have A7 := Aside0.mk A70
    clear A70
    by_cases c8 : t137 = true
    · subst c8
      have H1 : ((spec_l05Usable.f a1_0 a1_1 a1_2 a1_3).bind fun t138 => (if t138 = true then ((spec_GoalOk.f k a2_0 a2_1 a2_2).bind fun t139 => (spec_WantOf.j0 k a0 (!t139) a1_0 a1_1 a1_2 a1_3 a2_0 a2_1 a2_2)) else (spec_WantOf.j0 k a0 true a1_0 a1_1 a1_2 a1_3 a2_0 a2_1 a2_2))) = some r := by rw [if_pos rfl] at H; exact H
      clear H
      have H := H1
      clear H1
      replace H := Option.bind_eq_some_iff.mp H
      obtain ⟨t138, A90, H⟩ := H
      replace H : (if t138 = true then ((spec_GoalOk.f k a2_0 a2_1 a2_2).bind fun t139 => (spec_WantOf.j0 k a0 (!t139) a1_0 a1_1 a1_2 a1_3 a2_0 a2_1 a2_2)) else (spec_WantOf.j0 k a0 true a1_0 a1_1 a1_2 a1_3 a2_0 a2_1 a2_2)) = some r := H
      have A9 := Aside0.mk A90
      clear A90
      by_cases c10 : t138 = true
      · subst c10
        have H1 : ((spec_GoalOk.f k a2_0 a2_1 a2_2).bind fun t139 => (spec_WantOf.j0 k a0 (!t139) a1_0 a1_1 a1_2 a1_3 a2_0 a2_1 a2_2)) = some r := by rw [if_pos rfl] at H; exact H
        clear H
        have H := H1
        clear H1
        replace H := Option.bind_eq_some_iff.mp H
        obtain ⟨t139, A110, H⟩ := H
        replace H : (spec_WantOf.j0 k a0 (!t139) a1_0 a1_1 a1_2 a1_3 a2_0 a2_1 a2_2) = some r := H
        have A11 := Aside0.mk A110
        clear A110
        have H' := Aside0.mk H
        clear H
        go_wp2_with (first | ((with_reducible refine gate_callee (f := 37) rfl ?_); refine goesL_ (some 13) rfl rfl Try.func37 (by kernel_rfl) rfl #[.int .i64 a0] rfl (by (try simp only [List.map_toArray, List.map_cons, List.map_nil]); first | done | rfl | (simp only [List.length_drop, List.length_take]; rfl)) ?_; (with_reducible refine (spec_l05Count.calls a0 true _ A7.out).mono ?_); rintro e w' ⟨rfl, ⟨nd, rfl⟩⟩; refine ⟨_, rfl, ?_⟩; have hnb12 := NB135_136.out; have hnc12 := NB136_135.out; have hcz13_0 : w6.cell? ⟨gb135, 0, none⟩ = some (.int .i64 a1_0) := (blk_cell BK135.out 0).trans rfl; have hcz13_1 : w6.cell? ⟨gb135, 1, none⟩ = some (.int .i64 a1_1) := (blk_cell BK135.out 1).trans rfl; have hcz13_2 : w6.cell? ⟨gb135, 2, none⟩ = some (.int .i64 a1_2) := (blk_cell BK135.out 2).trans rfl; have hcz13_3 : w6.cell? ⟨gb135, 3, none⟩ = some (.int .i64 a1_3) := (blk_cell BK135.out 3).trans rfl; have hfz13_0 := blk_frozen BK135.out 0; have hfz13_1 := blk_frozen BK135.out 1; have hfz13_2 := blk_frozen BK135.out 2; have hfz13_3 := blk_frozen BK135.out 3) | (go_at_call 32; (with_reducible refine (spec_l05Usable.calls a1_0 a1_1 a1_2 a1_3 true _ A9.out).mono ?_); rintro e w14 ⟨rfl, hb⟩; have n0_ := Aside0.mk (blk_below (g := gb135) (o := .cells #[.int .i64 a1_0, .int .i64 a1_1, .int .i64 a1_2, .int .i64 a1_3] 36 (0, 0)) (by (with_reducible repeat (first | refine blk_drewN ?_ _ | refine blk_drew ?_ | refine blk_alloc ?_ _)); exact BK135.out) hb); have n1_ := Aside0.mk (blk_below (g := gb136) (o := .cells #[.string a2_0, .int .i64 a2_1, .int .i64 a2_2] 38 (0, 0)) (by (with_reducible repeat (first | refine blk_drewN ?_ _ | refine blk_drew ?_ | refine blk_alloc ?_ _)); exact BK136.out) hb); have n2_ := Aside0.mk (below_step (by repeat (first | (with_reducible first | exact HB.out | apply below_alloc | apply pw_below_drewN | apply below_drew1 | refine below_set ?_ GE135.out | refine below_set ?_ GE136.out) | exact HB.out)) hb); clear BK135; clear BK136; clear HB; have BK135 := n0_; have BK136 := n1_; have HB := n2_; clear n0_ n1_ n2_; (try clear hb); (try clear hb2); (try clear hk); (try clear hi); have hcz15_0 : w14.cell? ⟨gb136, 0, none⟩ = some (.string a2_0) := (blk_cell BK136.out 0).trans rfl; have hcz15_1 : w14.cell? ⟨gb136, 1, none⟩ = some (.int .i64 a2_1) := (blk_cell BK136.out 1).trans rfl; have hcz15_2 : w14.cell? ⟨gb136, 2, none⟩ = some (.int .i64 a2_2) := (blk_cell BK136.out 2).trans rfl; have hfz15_0 := blk_frozen BK136.out 0; have hfz15_1 := blk_frozen BK136.out 1; have hfz15_2 := blk_frozen BK136.out 2) | (go_at_call 33; (with_reducible refine (spec_GoalOk.calls k a2_0 a2_1 a2_2 t139 _ A11.out).mono ?_); rintro e w16 ⟨rfl, hb⟩; have n0_ := Aside0.mk (blk_below (g := gb135) (o := .cells #[.int .i64 a1_0, .int .i64 a1_1, .int .i64 a1_2, .int .i64 a1_3] 36 (0, 0)) (by (with_reducible repeat (first | refine blk_drewN ?_ _ | refine blk_drew ?_ | refine blk_alloc ?_ _)); exact BK135.out) hb); have n1_ := Aside0.mk (blk_below (g := gb136) (o := .cells #[.string a2_0, .int .i64 a2_1, .int .i64 a2_2] 38 (0, 0)) (by (with_reducible repeat (first | refine blk_drewN ?_ _ | refine blk_drew ?_ | refine blk_alloc ?_ _)); exact BK136.out) hb); have n2_ := Aside0.mk (below_step (by repeat (first | (with_reducible first | exact HB.out | apply below_alloc | apply pw_below_drewN | apply below_drew1 | refine below_set ?_ GE135.out | refine below_set ?_ GE136.out) | exact HB.out)) hb); clear BK135; clear BK136; clear HB; have BK135 := n0_; have BK136 := n1_; have HB := n2_; clear n0_ n1_ n2_; (try clear hb); (try clear hb2); (try clear hk); (try clear hi)))
        go_meet
        case rel => exact ⟨_, (!t139), (by first | rfl | (simp; done) | (simp [*]; done)), H', ⟨by first | omega | exact Nat.le_refl _⟩, ⟨by (with_reducible repeat (first | refine blk_drewN ?_ _ | refine blk_drew ?_ | refine blk_alloc ?_ _)); exact BK135.out⟩, ⟨by (with_reducible repeat (first | refine blk_drewN ?_ _ | refine blk_drew ?_ | refine blk_alloc ?_ _)); exact BK136.out⟩, ⟨by repeat (first | (with_reducible first | exact HB.out | apply below_alloc | apply pw_below_drewN | apply below_drew1 | refine below_set ?_ GE135.out | refine below_set ?_ GE136.out) | exact HB.out)⟩⟩
      · replace c10 := Bool.eq_false_iff.mpr c10
        subst c10
        have H1 : (spec_WantOf.j0 k a0 true a1_0 a1_1 a1_2 a1_3 a2_0 a2_1 a2_2) = some r := by rw [if_neg (show ¬ (false = true) by decide)] at H; exact H
        clear H
        have H := H1
        clear H1
        have H' := Aside0.mk H
        clear H
        go_wp2_with (first | ((with_reducible refine gate_callee (f := 37) rfl ?_); refine goesL_ (some 13) rfl rfl Try.func37 (by kernel_rfl) rfl #[.int .i64 a0] rfl (by (try simp only [List.map_toArray, List.map_cons, List.map_nil]); first | done | rfl | (simp only [List.length_drop, List.length_take]; rfl)) ?_; (with_reducible refine (spec_l05Count.calls a0 true _ A7.out).mono ?_); rintro e w' ⟨rfl, ⟨nd, rfl⟩⟩; refine ⟨_, rfl, ?_⟩; have hnb17 := NB135_136.out; have hnc17 := NB136_135.out; have hcz18_0 : w6.cell? ⟨gb135, 0, none⟩ = some (.int .i64 a1_0) := (blk_cell BK135.out 0).trans rfl; have hcz18_1 : w6.cell? ⟨gb135, 1, none⟩ = some (.int .i64 a1_1) := (blk_cell BK135.out 1).trans rfl; have hcz18_2 : w6.cell? ⟨gb135, 2, none⟩ = some (.int .i64 a1_2) := (blk_cell BK135.out 2).trans rfl; have hcz18_3 : w6.cell? ⟨gb135, 3, none⟩ = some (.int .i64 a1_3) := (blk_cell BK135.out 3).trans rfl; have hfz18_0 := blk_frozen BK135.out 0; have hfz18_1 := blk_frozen BK135.out 1; have hfz18_2 := blk_frozen BK135.out 2; have hfz18_3 := blk_frozen BK135.out 3) | (go_at_call 32; (with_reducible refine (spec_l05Usable.calls a1_0 a1_1 a1_2 a1_3 false _ A9.out).mono ?_); rintro e w19 ⟨rfl, hb⟩; have n0_ := Aside0.mk (blk_below (g := gb135) (o := .cells #[.int .i64 a1_0, .int .i64 a1_1, .int .i64 a1_2, .int .i64 a1_3] 36 (0, 0)) (by (with_reducible repeat (first | refine blk_drewN ?_ _ | refine blk_drew ?_ | refine blk_alloc ?_ _)); exact BK135.out) hb); have n1_ := Aside0.mk (blk_below (g := gb136) (o := .cells #[.string a2_0, .int .i64 a2_1, .int .i64 a2_2] 38 (0, 0)) (by (with_reducible repeat (first | refine blk_drewN ?_ _ | refine blk_drew ?_ | refine blk_alloc ?_ _)); exact BK136.out) hb); have n2_ := Aside0.mk (below_step (by repeat (first | (with_reducible first | exact HB.out | apply below_alloc | apply pw_below_drewN | apply below_drew1 | refine below_set ?_ GE135.out | refine below_set ?_ GE136.out) | exact HB.out)) hb); clear BK135; clear BK136; clear HB; have BK135 := n0_; have BK136 := n1_; have HB := n2_; clear n0_ n1_ n2_; (try clear hb); (try clear hb2); (try clear hk); (try clear hi)))
        go_meet
        case rel => exact ⟨_, (true), (by first | rfl | (simp; done) | (simp [*]; done)), H', ⟨by first | omega | exact Nat.le_refl _⟩, ⟨by (with_reducible repeat (first | refine blk_drewN ?_ _ | refine blk_drew ?_ | refine blk_alloc ?_ _)); exact BK135.out⟩, ⟨by (with_reducible repeat (first | refine blk_drewN ?_ _ | refine blk_drew ?_ | refine blk_alloc ?_ _)); exact BK136.out⟩, ⟨by repeat (first | (with_reducible first | exact HB.out | apply below_alloc | apply pw_below_drewN | apply below_drew1 | refine below_set ?_ GE135.out | refine below_set ?_ GE136.out) | exact HB.out)⟩⟩
    · replace c8 := Bool.eq_false_iff.mpr c8
      subst c8
      have H1 : (spec_WantOf.j0 k a0 true a1_0 a1_1 a1_2 a1_3 a2_0 a2_1 a2_2) = some r := by rw [if_neg (show ¬ (false = true) by decide)] at H; exact H
      clear H
      have H := H1
      clear H1
      have H' := Aside0.mk H
      clear H
      go_wp2_with (first | ((with_reducible refine gate_callee (f := 37) rfl ?_); refine goesL_ (some 13) rfl rfl Try.func37 (by kernel_rfl) rfl #[.int .i64 a0] rfl (by (try simp only [List.map_toArray, List.map_cons, List.map_nil]); first | done | rfl | (simp only [List.length_drop, List.length_take]; rfl)) ?_; (with_reducible refine (spec_l05Count.calls a0 false _ A7.out).mono ?_); rintro e w' ⟨rfl, ⟨nd, rfl⟩⟩; refine ⟨_, rfl, ?_⟩))
      go_meet
      case rel => exact ⟨_, (true), (by first | rfl | (simp; done) | (simp [*]; done)), H', ⟨by first | omega | exact Nat.le_refl _⟩, ⟨by (with_reducible repeat (first | refine blk_drewN ?_ _ | refine blk_drew ?_ | refine blk_alloc ?_ _)); exact BK135.out⟩, ⟨by (with_reducible repeat (first | refine blk_drewN ?_ _ | refine blk_drew ?_ | refine blk_alloc ?_ _)); exact BK136.out⟩, ⟨by repeat (first | (with_reducible first | exact HB.out | apply below_alloc | apply pw_below_drewN | apply below_drew1 | refine below_set ?_ GE135.out | refine below_set ?_ GE136.out) | exact HB.out)⟩⟩
  case rest =>
    clear HC4
    try clear c1
    try clear c2
    try clear p2
    try clear c3
    try clear c8
    try clear c10
    try clear c12
    try clear c17
    try clear hcz13_0
    try clear hcz13_1
    try clear hcz13_2
    try clear hcz13_3
    try clear hcz15_0
    try clear hcz15_1
    try clear hcz15_2
    try clear hcz18_0
    try clear hcz18_1
    try clear hcz18_2
    try clear hcz18_3
    try clear hfz13_0
    try clear hfz13_1
    try clear hfz13_2
    try clear hfz13_3
    try clear hfz15_0
    try clear hfz15_1
    try clear hfz15_2
    try clear hfz18_0
    try clear hfz18_1
    try clear hfz18_2
    try clear hfz18_3
    obtain ⟨kq, x24_3, rfl, HA, HJ3, BK135, BK136, HB⟩ := hcut
    cases kq with
    | zero => exact absurd HA.out (by simp [spec_WantOf.j0])
    | succ kj3 =>
      have H := HA.out
      clear HA
      simp only [spec_WantOf.j0] at H
      by_cases c20 : x24_3 = true
      · subst c20
        have H1 : (some (-1)) = some r := by rw [if_pos rfl] at H; exact H
        clear H
        have H := H1
        clear H1
        obtain rfl := Option.some.inj H
        go_wp2
        go_ret
        exact ⟨by first | rfl | (simp [errW_none, errW_some] <;> rfl) | (simp [*, errW_none, errW_some] <;> rfl), by repeat (first | (with_reducible first | exact HB.out | apply below_alloc | apply pw_below_drewN | apply below_drew1 | refine below_set ?_ GE135.out | refine below_set ?_ GE136.out) | exact HB.out)⟩
      · replace c20 := Bool.eq_false_iff.mpr c20
        subst c20
        have H1 : ((spec_RefillOf.f kj3 a1_0 a1_1 a1_2 a1_3 a2_0 a2_1 a2_2).bind fun bt140 => ((spec_RatioSign.f kj3 a1_3 a1_0 a2_1).bind fun t142 => ((spec_RatioSign.f kj3 bt140.1 bt140.2 a2_1).bind fun t143 => (if a0 = 0 then (spec_WantOf.j1 kj3 a0 bt140.1 t143 true a2_0 a2_1 a2_2) else ((spec_InBand.f kj3 a1_3 a1_0 a2_0 a2_1 a2_2).bind fun t144 => (if t144 = true then (spec_WantOf.j1 kj3 a0 bt140.1 t143 true a2_0 a2_1 a2_2) else ((spec_InBand.f kj3 bt140.1 bt140.2 a2_0 a2_1 a2_2).bind fun t145 => (if t145 = true then (spec_WantOf.j1 kj3 a0 bt140.1 t143 true a2_0 a2_1 a2_2) else (spec_WantOf.j1 kj3 a0 bt140.1 t143 (t142 != t143) a2_0 a2_1 a2_2))))))))) = some r := by rw [if_neg (show ¬ (false = true) by decide)] at H; exact H
        clear H
        have H := H1
        clear H1
        replace H := Option.bind_eq_some_iff.mp H
        obtain ⟨⟨t140, t141⟩, A210, H⟩ := H
        replace H : ((spec_RatioSign.f kj3 a1_3 a1_0 a2_1).bind fun t142 => ((spec_RatioSign.f kj3 t140 t141 a2_1).bind fun t143 => (if a0 = 0 then (spec_WantOf.j1 kj3 a0 t140 t143 true a2_0 a2_1 a2_2) else ((spec_InBand.f kj3 a1_3 a1_0 a2_0 a2_1 a2_2).bind fun t144 => (if t144 = true then (spec_WantOf.j1 kj3 a0 t140 t143 true a2_0 a2_1 a2_2) else ((spec_InBand.f kj3 t140 t141 a2_0 a2_1 a2_2).bind fun t145 => (if t145 = true then (spec_WantOf.j1 kj3 a0 t140 t143 true a2_0 a2_1 a2_2) else (spec_WantOf.j1 kj3 a0 t140 t143 (t142 != t143) a2_0 a2_1 a2_2)))))))) = some r := H
        have A21 := Aside0.mk A210
        clear A210
        replace H := Option.bind_eq_some_iff.mp H
        obtain ⟨t142, A220, H⟩ := H
        replace H : ((spec_RatioSign.f kj3 t140 t141 a2_1).bind fun t143 => (if a0 = 0 then (spec_WantOf.j1 kj3 a0 t140 t143 true a2_0 a2_1 a2_2) else ((spec_InBand.f kj3 a1_3 a1_0 a2_0 a2_1 a2_2).bind fun t144 => (if t144 = true then (spec_WantOf.j1 kj3 a0 t140 t143 true a2_0 a2_1 a2_2) else ((spec_InBand.f kj3 t140 t141 a2_0 a2_1 a2_2).bind fun t145 => (if t145 = true then (spec_WantOf.j1 kj3 a0 t140 t143 true a2_0 a2_1 a2_2) else (spec_WantOf.j1 kj3 a0 t140 t143 (t142 != t143) a2_0 a2_1 a2_2))))))) = some r := H
        have A22 := Aside0.mk A220
        clear A220
        replace H := Option.bind_eq_some_iff.mp H
        obtain ⟨t143, A230, H⟩ := H
        replace H : (if a0 = 0 then (spec_WantOf.j1 kj3 a0 t140 t143 true a2_0 a2_1 a2_2) else ((spec_InBand.f kj3 a1_3 a1_0 a2_0 a2_1 a2_2).bind fun t144 => (if t144 = true then (spec_WantOf.j1 kj3 a0 t140 t143 true a2_0 a2_1 a2_2) else ((spec_InBand.f kj3 t140 t141 a2_0 a2_1 a2_2).bind fun t145 => (if t145 = true then (spec_WantOf.j1 kj3 a0 t140 t143 true a2_0 a2_1 a2_2) else (spec_WantOf.j1 kj3 a0 t140 t143 (t142 != t143) a2_0 a2_1 a2_2)))))) = some r := H
        have A23 := Aside0.mk A230
        clear A230
        have HC24 := Aside0.mk H
        clear H
        have hnb25 := NB135_136.out
        have hnc25 := NB136_135.out
        have hcz26_0 : wc.cell? ⟨gb135, 0, none⟩ = some (.int .i64 a1_0) := (blk_cell BK135.out 0).trans rfl
        have hcz26_1 : wc.cell? ⟨gb135, 1, none⟩ = some (.int .i64 a1_1) := (blk_cell BK135.out 1).trans rfl
        have hcz26_2 : wc.cell? ⟨gb135, 2, none⟩ = some (.int .i64 a1_2) := (blk_cell BK135.out 2).trans rfl
        have hcz26_3 : wc.cell? ⟨gb135, 3, none⟩ = some (.int .i64 a1_3) := (blk_cell BK135.out 3).trans rfl
        have hfz26_0 := blk_frozen BK135.out 0
        have hfz26_1 := blk_frozen BK135.out 1
        have hfz26_2 := blk_frozen BK135.out 2
        have hfz26_3 := blk_frozen BK135.out 3
        have hcz27_0 : wc.cell? ⟨gb136, 0, none⟩ = some (.string a2_0) := (blk_cell BK136.out 0).trans rfl
        have hcz27_1 : wc.cell? ⟨gb136, 1, none⟩ = some (.int .i64 a2_1) := (blk_cell BK136.out 1).trans rfl
        have hcz27_2 : wc.cell? ⟨gb136, 2, none⟩ = some (.int .i64 a2_2) := (blk_cell BK136.out 2).trans rfl
        have hfz27_0 := blk_frozen BK136.out 0
        have hfz27_1 := blk_frozen BK136.out 1
        have hfz27_2 := blk_frozen BK136.out 2
        go_upto_region 6 with (first | ((with_reducible refine gate_callee (f := 14) rfl ?_); refine goesL_ (some 28) rfl rfl Try.func14 (by kernel_rfl) rfl #[.agg #[.int .i64 a1_0, .int .i64 a1_1, .int .i64 a1_2, .int .i64 a1_3], .agg #[.string a2_0, .int .i64 a2_1, .int .i64 a2_2]] rfl (by (try simp only [List.map_toArray, List.map_cons, List.map_nil]); first | done | rfl | (simp only [List.length_drop, List.length_take]; rfl)) ?_; (with_reducible refine (spec_RefillOf.calls kj3 a1_0 a1_1 a1_2 a1_3 a2_0 a2_1 a2_2 t140 t141 _ A21.out).mono ?_); rintro e w28 ⟨rfl, hb⟩; refine ⟨_, rfl, ?_⟩; have n0_ := Aside0.mk (blk_below (g := gb135) (o := .cells #[.int .i64 a1_0, .int .i64 a1_1, .int .i64 a1_2, .int .i64 a1_3] 36 (0, 0)) (by (with_reducible repeat (first | refine blk_drewN ?_ _ | refine blk_drew ?_ | refine blk_alloc ?_ _)); exact BK135.out) hb); have n1_ := Aside0.mk (blk_below (g := gb136) (o := .cells #[.string a2_0, .int .i64 a2_1, .int .i64 a2_2] 38 (0, 0)) (by (with_reducible repeat (first | refine blk_drewN ?_ _ | refine blk_drew ?_ | refine blk_alloc ?_ _)); exact BK136.out) hb); have n2_ := Aside0.mk (below_step (by repeat (first | (with_reducible first | exact HB.out | apply below_alloc | apply pw_below_drewN | apply below_drew1 | refine below_set ?_ GE135.out | refine below_set ?_ GE136.out) | exact HB.out)) hb); clear BK135; clear BK136; clear HB; have BK135 := n0_; have BK136 := n1_; have HB := n2_; clear n0_ n1_ n2_; (try clear hb); (try clear hb2); (try clear hk); (try clear hi); have hcz29_0 : w28.cell? ⟨gb135, 0, none⟩ = some (.int .i64 a1_0) := (blk_cell BK135.out 0).trans rfl; have hcz29_1 : w28.cell? ⟨gb135, 1, none⟩ = some (.int .i64 a1_1) := (blk_cell BK135.out 1).trans rfl; have hcz29_2 : w28.cell? ⟨gb135, 2, none⟩ = some (.int .i64 a1_2) := (blk_cell BK135.out 2).trans rfl; have hcz29_3 : w28.cell? ⟨gb135, 3, none⟩ = some (.int .i64 a1_3) := (blk_cell BK135.out 3).trans rfl; have hfz29_0 := blk_frozen BK135.out 0; have hfz29_1 := blk_frozen BK135.out 1; have hfz29_2 := blk_frozen BK135.out 2; have hfz29_3 := blk_frozen BK135.out 3; have hcz30_0 : w28.cell? ⟨gb136, 0, none⟩ = some (.string a2_0) := (blk_cell BK136.out 0).trans rfl; have hcz30_1 : w28.cell? ⟨gb136, 1, none⟩ = some (.int .i64 a2_1) := (blk_cell BK136.out 1).trans rfl; have hcz30_2 : w28.cell? ⟨gb136, 2, none⟩ = some (.int .i64 a2_2) := (blk_cell BK136.out 2).trans rfl; have hfz30_0 := blk_frozen BK136.out 0; have hfz30_1 := blk_frozen BK136.out 1; have hfz30_2 := blk_frozen BK136.out 2) | ((with_reducible refine gate_callee (f := 34) rfl ?_); refine goesL_ (some 37) rfl rfl Try.func34 (by kernel_rfl) rfl #[.int .i64 a1_3, .int .i64 a1_0, .int .i64 a2_1] rfl (by (try simp only [List.map_toArray, List.map_cons, List.map_nil]); first | done | rfl | (simp only [List.length_drop, List.length_take]; rfl)) ?_; (with_reducible refine (spec_RatioSign.calls kj3 a1_3 a1_0 a2_1 t142 _ A22.out).mono ?_); rintro e w' ⟨rfl, ⟨nd, rfl⟩⟩; refine ⟨_, rfl, ?_⟩) | ((with_reducible refine gate_callee (f := 34) rfl ?_); refine goesL_ (some 42) rfl rfl Try.func34 (by kernel_rfl) rfl #[.int .i64 t140, .int .i64 t141, .int .i64 a2_1] rfl (by (try simp only [List.map_toArray, List.map_cons, List.map_nil]); first | done | rfl | (simp only [List.length_drop, List.length_take]; rfl)) ?_; (with_reducible refine (spec_RatioSign.calls kj3 t140 t141 a2_1 t143 _ A23.out).mono ?_); rintro e w' ⟨rfl, ⟨nd, rfl⟩⟩; refine ⟨_, rfl, ?_⟩))
        (try simp only [Act.put, List.setIfInBounds_toArray, List.set_cons_zero, List.set_cons_succ])
        go_cut [63] (fun v63 wc => ∃ (kq : Nat) (x63_23 : Bool), v63 = .bool x63_23 ∧ Aside0 (spec_WantOf.j1 kq a0 t140 t143 x63_23 a2_0 a2_1 a2_2 = some r) ∧ Aside0 (kq ≤ kj3) ∧ Aside0 (wc.heap[gb135]? = some (.cells #[.int .i64 a1_0, .int .i64 a1_1, .int .i64 a1_2, .int .i64 a1_3] 36 (0, 0))) ∧ Aside0 (wc.heap[gb136]? = some (.cells #[.string a2_0, .int .i64 a2_1, .int .i64 a2_2] 38 (0, 0))) ∧ Aside0 (Below w.heap.size w wc))
        case first =>
          have H := HC24.out
          clear HC24
          by_cases c31 : a0 = 0
          · rw [if_pos c31] at H
            have c31b0 : (a0 == 0) = true := beq_iff_eq.mpr c31
            have c31b1 : (a0 != 0) = false := bne_eq_false_iff_eq.mpr c31
            clear c31
            (first | rw [c31b0] | (simp only [i64_w, i32_w]; rw [c31b0]) | skip)
            have H' := Aside0.mk H
            clear H
            go_wp2
            go_meet
            case rel => exact ⟨_, (true), (by first | rfl | (simp; done) | (simp [*]; done)), H', ⟨by have := HJ3.out; first | omega | exact Nat.le_refl _⟩, ⟨by (with_reducible repeat (first | refine blk_drewN ?_ _ | refine blk_drew ?_ | refine blk_alloc ?_ _)); exact BK135.out⟩, ⟨by (with_reducible repeat (first | refine blk_drewN ?_ _ | refine blk_drew ?_ | refine blk_alloc ?_ _)); exact BK136.out⟩, ⟨by repeat (first | (with_reducible first | exact HB.out | apply below_alloc | apply pw_below_drewN | apply below_drew1 | refine below_set ?_ GE135.out | refine below_set ?_ GE136.out) | exact HB.out)⟩⟩
          · rw [if_neg c31] at H
            have c31b0 : (a0 == 0) = false := beq_eq_false_iff_ne.mpr c31
            have c31b1 : (a0 != 0) = true := bne_iff_ne.mpr c31
            (first | rw [c31b0] | (simp only [i64_w, i32_w]; rw [c31b0]) | skip)
            replace H := Option.bind_eq_some_iff.mp H
            obtain ⟨t144, A320, H⟩ := H
            replace H : (if t144 = true then (spec_WantOf.j1 kj3 a0 t140 t143 true a2_0 a2_1 a2_2) else ((spec_InBand.f kj3 t140 t141 a2_0 a2_1 a2_2).bind fun t145 => (if t145 = true then (spec_WantOf.j1 kj3 a0 t140 t143 true a2_0 a2_1 a2_2) else (spec_WantOf.j1 kj3 a0 t140 t143 (t142 != t143) a2_0 a2_1 a2_2)))) = some r := H
            have A32 := Aside0.mk A320
            clear A320
            by_cases c33 : t144 = true
            · subst c33
              have H1 : (spec_WantOf.j1 kj3 a0 t140 t143 true a2_0 a2_1 a2_2) = some r := by rw [if_pos rfl] at H; exact H
              clear H
              have H := H1
              clear H1
              have H' := Aside0.mk H
              clear H
              have hnb34 := NB135_136.out
              have hnc34 := NB136_135.out
              have hcz35_0 : w28.cell? ⟨gb135, 0, none⟩ = some (.int .i64 a1_0) := (blk_cell BK135.out 0).trans rfl
              have hcz35_1 : w28.cell? ⟨gb135, 1, none⟩ = some (.int .i64 a1_1) := (blk_cell BK135.out 1).trans rfl
              have hcz35_2 : w28.cell? ⟨gb135, 2, none⟩ = some (.int .i64 a1_2) := (blk_cell BK135.out 2).trans rfl
              have hcz35_3 : w28.cell? ⟨gb135, 3, none⟩ = some (.int .i64 a1_3) := (blk_cell BK135.out 3).trans rfl
              have hfz35_0 := blk_frozen BK135.out 0
              have hfz35_1 := blk_frozen BK135.out 1
              have hfz35_2 := blk_frozen BK135.out 2
              have hfz35_3 := blk_frozen BK135.out 3
              have hcz36_0 : w28.cell? ⟨gb136, 0, none⟩ = some (.string a2_0) := (blk_cell BK136.out 0).trans rfl
              have hcz36_1 : w28.cell? ⟨gb136, 1, none⟩ = some (.int .i64 a2_1) := (blk_cell BK136.out 1).trans rfl
              have hcz36_2 : w28.cell? ⟨gb136, 2, none⟩ = some (.int .i64 a2_2) := (blk_cell BK136.out 2).trans rfl
              have hfz36_0 := blk_frozen BK136.out 0
              have hfz36_1 := blk_frozen BK136.out 1
              have hfz36_2 := blk_frozen BK136.out 2
              go_wp2_with (first | (go_at_call 38; (with_reducible refine (spec_InBand.calls kj3 a1_3 a1_0 a2_0 a2_1 a2_2 true _ A32.out).mono ?_); rintro e w37 ⟨rfl, hb⟩; have n0_ := Aside0.mk (blk_below (g := gb135) (o := .cells #[.int .i64 a1_0, .int .i64 a1_1, .int .i64 a1_2, .int .i64 a1_3] 36 (0, 0)) (by (with_reducible repeat (first | refine blk_drewN ?_ _ | refine blk_drew ?_ | refine blk_alloc ?_ _)); exact BK135.out) hb); have n1_ := Aside0.mk (blk_below (g := gb136) (o := .cells #[.string a2_0, .int .i64 a2_1, .int .i64 a2_2] 38 (0, 0)) (by (with_reducible repeat (first | refine blk_drewN ?_ _ | refine blk_drew ?_ | refine blk_alloc ?_ _)); exact BK136.out) hb); have n2_ := Aside0.mk (below_step (by repeat (first | (with_reducible first | exact HB.out | apply below_alloc | apply pw_below_drewN | apply below_drew1 | refine below_set ?_ GE135.out | refine below_set ?_ GE136.out) | exact HB.out)) hb); clear BK135; clear BK136; clear HB; have BK135 := n0_; have BK136 := n1_; have HB := n2_; clear n0_ n1_ n2_; (try clear hb); (try clear hb2); (try clear hk); (try clear hi)))
              go_meet
              case rel => exact ⟨_, (true), (by first | rfl | (simp; done) | (simp [*]; done)), H', ⟨by have := HJ3.out; first | omega | exact Nat.le_refl _⟩, ⟨by (with_reducible repeat (first | refine blk_drewN ?_ _ | refine blk_drew ?_ | refine blk_alloc ?_ _)); exact BK135.out⟩, ⟨by (with_reducible repeat (first | refine blk_drewN ?_ _ | refine blk_drew ?_ | refine blk_alloc ?_ _)); exact BK136.out⟩, ⟨by repeat (first | (with_reducible first | exact HB.out | apply below_alloc | apply pw_below_drewN | apply below_drew1 | refine below_set ?_ GE135.out | refine below_set ?_ GE136.out) | exact HB.out)⟩⟩
            · replace c33 := Bool.eq_false_iff.mpr c33
              subst c33
              have H1 : ((spec_InBand.f kj3 t140 t141 a2_0 a2_1 a2_2).bind fun t145 => (if t145 = true then (spec_WantOf.j1 kj3 a0 t140 t143 true a2_0 a2_1 a2_2) else (spec_WantOf.j1 kj3 a0 t140 t143 (t142 != t143) a2_0 a2_1 a2_2))) = some r := by rw [if_neg (show ¬ (false = true) by decide)] at H; exact H
              clear H
              have H := H1
              clear H1
              replace H := Option.bind_eq_some_iff.mp H
              obtain ⟨t145, A380, H⟩ := H
              replace H : (if t145 = true then (spec_WantOf.j1 kj3 a0 t140 t143 true a2_0 a2_1 a2_2) else (spec_WantOf.j1 kj3 a0 t140 t143 (t142 != t143) a2_0 a2_1 a2_2)) = some r := H
              have A38 := Aside0.mk A380
              clear A380
              by_cases c39 : t145 = true
              · subst c39
                have H1 : (spec_WantOf.j1 kj3 a0 t140 t143 true a2_0 a2_1 a2_2) = some r := by rw [if_pos rfl] at H; exact H
                clear H
                have H := H1
                clear H1
                have H' := Aside0.mk H
                clear H
                have hnb40 := NB135_136.out
                have hnc40 := NB136_135.out
                have hcz41_0 : w28.cell? ⟨gb135, 0, none⟩ = some (.int .i64 a1_0) := (blk_cell BK135.out 0).trans rfl
                have hcz41_1 : w28.cell? ⟨gb135, 1, none⟩ = some (.int .i64 a1_1) := (blk_cell BK135.out 1).trans rfl
                have hcz41_2 : w28.cell? ⟨gb135, 2, none⟩ = some (.int .i64 a1_2) := (blk_cell BK135.out 2).trans rfl
                have hcz41_3 : w28.cell? ⟨gb135, 3, none⟩ = some (.int .i64 a1_3) := (blk_cell BK135.out 3).trans rfl
                have hfz41_0 := blk_frozen BK135.out 0
                have hfz41_1 := blk_frozen BK135.out 1
                have hfz41_2 := blk_frozen BK135.out 2
                have hfz41_3 := blk_frozen BK135.out 3
                have hcz42_0 : w28.cell? ⟨gb136, 0, none⟩ = some (.string a2_0) := (blk_cell BK136.out 0).trans rfl
                have hcz42_1 : w28.cell? ⟨gb136, 1, none⟩ = some (.int .i64 a2_1) := (blk_cell BK136.out 1).trans rfl
                have hcz42_2 : w28.cell? ⟨gb136, 2, none⟩ = some (.int .i64 a2_2) := (blk_cell BK136.out 2).trans rfl
                have hfz42_0 := blk_frozen BK136.out 0
                have hfz42_1 := blk_frozen BK136.out 1
                have hfz42_2 := blk_frozen BK136.out 2
                go_wp2_with (first | (go_at_call 38; (with_reducible refine (spec_InBand.calls kj3 a1_3 a1_0 a2_0 a2_1 a2_2 false _ A32.out).mono ?_); rintro e w43 ⟨rfl, hb⟩; have n0_ := Aside0.mk (blk_below (g := gb135) (o := .cells #[.int .i64 a1_0, .int .i64 a1_1, .int .i64 a1_2, .int .i64 a1_3] 36 (0, 0)) (by (with_reducible repeat (first | refine blk_drewN ?_ _ | refine blk_drew ?_ | refine blk_alloc ?_ _)); exact BK135.out) hb); have n1_ := Aside0.mk (blk_below (g := gb136) (o := .cells #[.string a2_0, .int .i64 a2_1, .int .i64 a2_2] 38 (0, 0)) (by (with_reducible repeat (first | refine blk_drewN ?_ _ | refine blk_drew ?_ | refine blk_alloc ?_ _)); exact BK136.out) hb); have n2_ := Aside0.mk (below_step (by repeat (first | (with_reducible first | exact HB.out | apply below_alloc | apply pw_below_drewN | apply below_drew1 | refine below_set ?_ GE135.out | refine below_set ?_ GE136.out) | exact HB.out)) hb); clear BK135; clear BK136; clear HB; have BK135 := n0_; have BK136 := n1_; have HB := n2_; clear n0_ n1_ n2_; (try clear hb); (try clear hb2); (try clear hk); (try clear hi); have hcz44_0 : w43.cell? ⟨gb136, 0, none⟩ = some (.string a2_0) := (blk_cell BK136.out 0).trans rfl; have hcz44_1 : w43.cell? ⟨gb136, 1, none⟩ = some (.int .i64 a2_1) := (blk_cell BK136.out 1).trans rfl; have hcz44_2 : w43.cell? ⟨gb136, 2, none⟩ = some (.int .i64 a2_2) := (blk_cell BK136.out 2).trans rfl; have hfz44_0 := blk_frozen BK136.out 0; have hfz44_1 := blk_frozen BK136.out 1; have hfz44_2 := blk_frozen BK136.out 2) | (go_at_call 38; (with_reducible refine (spec_InBand.calls kj3 t140 t141 a2_0 a2_1 a2_2 true _ A38.out).mono ?_); rintro e w45 ⟨rfl, hb⟩; have n0_ := Aside0.mk (blk_below (g := gb135) (o := .cells #[.int .i64 a1_0, .int .i64 a1_1, .int .i64 a1_2, .int .i64 a1_3] 36 (0, 0)) (by (with_reducible repeat (first | refine blk_drewN ?_ _ | refine blk_drew ?_ | refine blk_alloc ?_ _)); exact BK135.out) hb); have n1_ := Aside0.mk (blk_below (g := gb136) (o := .cells #[.string a2_0, .int .i64 a2_1, .int .i64 a2_2] 38 (0, 0)) (by (with_reducible repeat (first | refine blk_drewN ?_ _ | refine blk_drew ?_ | refine blk_alloc ?_ _)); exact BK136.out) hb); have n2_ := Aside0.mk (below_step (by repeat (first | (with_reducible first | exact HB.out | apply below_alloc | apply pw_below_drewN | apply below_drew1 | refine below_set ?_ GE135.out | refine below_set ?_ GE136.out) | exact HB.out)) hb); clear BK135; clear BK136; clear HB; have BK135 := n0_; have BK136 := n1_; have HB := n2_; clear n0_ n1_ n2_; (try clear hb); (try clear hb2); (try clear hk); (try clear hi)))
                go_meet
                case rel => exact ⟨_, (true), (by first | rfl | (simp; done) | (simp [*]; done)), H', ⟨by have := HJ3.out; first | omega | exact Nat.le_refl _⟩, ⟨by (with_reducible repeat (first | refine blk_drewN ?_ _ | refine blk_drew ?_ | refine blk_alloc ?_ _)); exact BK135.out⟩, ⟨by (with_reducible repeat (first | refine blk_drewN ?_ _ | refine blk_drew ?_ | refine blk_alloc ?_ _)); exact BK136.out⟩, ⟨by repeat (first | (with_reducible first | exact HB.out | apply below_alloc | apply pw_below_drewN | apply below_drew1 | refine below_set ?_ GE135.out | refine below_set ?_ GE136.out) | exact HB.out)⟩⟩
              · replace c39 := Bool.eq_false_iff.mpr c39
                subst c39
                have H1 : (spec_WantOf.j1 kj3 a0 t140 t143 (t142 != t143) a2_0 a2_1 a2_2) = some r := by rw [if_neg (show ¬ (false = true) by decide)] at H; exact H
                clear H
                have H := H1
                clear H1
                have H' := Aside0.mk H
                clear H
                have hnb46 := NB135_136.out
                have hnc46 := NB136_135.out
                have hcz47_0 : w28.cell? ⟨gb135, 0, none⟩ = some (.int .i64 a1_0) := (blk_cell BK135.out 0).trans rfl
                have hcz47_1 : w28.cell? ⟨gb135, 1, none⟩ = some (.int .i64 a1_1) := (blk_cell BK135.out 1).trans rfl
                have hcz47_2 : w28.cell? ⟨gb135, 2, none⟩ = some (.int .i64 a1_2) := (blk_cell BK135.out 2).trans rfl
                have hcz47_3 : w28.cell? ⟨gb135, 3, none⟩ = some (.int .i64 a1_3) := (blk_cell BK135.out 3).trans rfl
                have hfz47_0 := blk_frozen BK135.out 0
                have hfz47_1 := blk_frozen BK135.out 1
                have hfz47_2 := blk_frozen BK135.out 2
                have hfz47_3 := blk_frozen BK135.out 3
                have hcz48_0 : w28.cell? ⟨gb136, 0, none⟩ = some (.string a2_0) := (blk_cell BK136.out 0).trans rfl
                have hcz48_1 : w28.cell? ⟨gb136, 1, none⟩ = some (.int .i64 a2_1) := (blk_cell BK136.out 1).trans rfl
                have hcz48_2 : w28.cell? ⟨gb136, 2, none⟩ = some (.int .i64 a2_2) := (blk_cell BK136.out 2).trans rfl
                have hfz48_0 := blk_frozen BK136.out 0
                have hfz48_1 := blk_frozen BK136.out 1
                have hfz48_2 := blk_frozen BK136.out 2
                go_wp2_with (first | (go_at_call 38; (with_reducible refine (spec_InBand.calls kj3 a1_3 a1_0 a2_0 a2_1 a2_2 false _ A32.out).mono ?_); rintro e w49 ⟨rfl, hb⟩; have n0_ := Aside0.mk (blk_below (g := gb135) (o := .cells #[.int .i64 a1_0, .int .i64 a1_1, .int .i64 a1_2, .int .i64 a1_3] 36 (0, 0)) (by (with_reducible repeat (first | refine blk_drewN ?_ _ | refine blk_drew ?_ | refine blk_alloc ?_ _)); exact BK135.out) hb); have n1_ := Aside0.mk (blk_below (g := gb136) (o := .cells #[.string a2_0, .int .i64 a2_1, .int .i64 a2_2] 38 (0, 0)) (by (with_reducible repeat (first | refine blk_drewN ?_ _ | refine blk_drew ?_ | refine blk_alloc ?_ _)); exact BK136.out) hb); have n2_ := Aside0.mk (below_step (by repeat (first | (with_reducible first | exact HB.out | apply below_alloc | apply pw_below_drewN | apply below_drew1 | refine below_set ?_ GE135.out | refine below_set ?_ GE136.out) | exact HB.out)) hb); clear BK135; clear BK136; clear HB; have BK135 := n0_; have BK136 := n1_; have HB := n2_; clear n0_ n1_ n2_; (try clear hb); (try clear hb2); (try clear hk); (try clear hi); have hcz50_0 : w49.cell? ⟨gb136, 0, none⟩ = some (.string a2_0) := (blk_cell BK136.out 0).trans rfl; have hcz50_1 : w49.cell? ⟨gb136, 1, none⟩ = some (.int .i64 a2_1) := (blk_cell BK136.out 1).trans rfl; have hcz50_2 : w49.cell? ⟨gb136, 2, none⟩ = some (.int .i64 a2_2) := (blk_cell BK136.out 2).trans rfl; have hfz50_0 := blk_frozen BK136.out 0; have hfz50_1 := blk_frozen BK136.out 1; have hfz50_2 := blk_frozen BK136.out 2) | (go_at_call 38; (with_reducible refine (spec_InBand.calls kj3 t140 t141 a2_0 a2_1 a2_2 false _ A38.out).mono ?_); rintro e w51 ⟨rfl, hb⟩; have n0_ := Aside0.mk (blk_below (g := gb135) (o := .cells #[.int .i64 a1_0, .int .i64 a1_1, .int .i64 a1_2, .int .i64 a1_3] 36 (0, 0)) (by (with_reducible repeat (first | refine blk_drewN ?_ _ | refine blk_drew ?_ | refine blk_alloc ?_ _)); exact BK135.out) hb); have n1_ := Aside0.mk (blk_below (g := gb136) (o := .cells #[.string a2_0, .int .i64 a2_1, .int .i64 a2_2] 38 (0, 0)) (by (with_reducible repeat (first | refine blk_drewN ?_ _ | refine blk_drew ?_ | refine blk_alloc ?_ _)); exact BK136.out) hb); have n2_ := Aside0.mk (below_step (by repeat (first | (with_reducible first | exact HB.out | apply below_alloc | apply pw_below_drewN | apply below_drew1 | refine below_set ?_ GE135.out | refine below_set ?_ GE136.out) | exact HB.out)) hb); clear BK135; clear BK136; clear HB; have BK135 := n0_; have BK136 := n1_; have HB := n2_; clear n0_ n1_ n2_; (try clear hb); (try clear hb2); (try clear hk); (try clear hi)))
                go_meet
                case rel => exact ⟨_, ((t142 != t143)), (by first | rfl | (simp; done) | (simp [*]; done)), H', ⟨by have := HJ3.out; first | omega | exact Nat.le_refl _⟩, ⟨by (with_reducible repeat (first | refine blk_drewN ?_ _ | refine blk_drew ?_ | refine blk_alloc ?_ _)); exact BK135.out⟩, ⟨by (with_reducible repeat (first | refine blk_drewN ?_ _ | refine blk_drew ?_ | refine blk_alloc ?_ _)); exact BK136.out⟩, ⟨by repeat (first | (with_reducible first | exact HB.out | apply below_alloc | apply pw_below_drewN | apply below_drew1 | refine below_set ?_ GE135.out | refine below_set ?_ GE136.out) | exact HB.out)⟩⟩
        case rest =>
          clear HC24
          try clear c1
          try clear c2
          try clear p2
          try clear c3
          try clear c4
          try clear c8
          try clear c10
          try clear c12
          try clear c14
          try clear c17
          try clear c20
          try clear c25
          try clear c31
          try clear c31b0
          try clear c31b1
          try clear c33
          try clear c34
          try clear c37
          try clear c39
          try clear c40
          try clear c46
          try clear hcz13_0
          try clear hcz13_1
          try clear hcz13_2
          try clear hcz13_3
          try clear hcz15_0
          try clear hcz15_1
          try clear hcz15_2
          try clear hcz18_0
          try clear hcz18_1
          try clear hcz18_2
          try clear hcz18_3
          try clear hcz26_0
          try clear hcz26_1
          try clear hcz26_2
          try clear hcz26_3
          try clear hcz27_0
          try clear hcz27_1
          try clear hcz27_2
          try clear hcz29_0
          try clear hcz29_1
          try clear hcz29_2
          try clear hcz29_3
          try clear hcz30_0
          try clear hcz30_1
          try clear hcz30_2
          try clear hcz35_0
          try clear hcz35_1
          try clear hcz35_2
          try clear hcz35_3
          try clear hcz36_0
          try clear hcz36_1
          try clear hcz36_2
          try clear hcz41_0
          try clear hcz41_1
          try clear hcz41_2
          try clear hcz41_3
          try clear hcz42_0
          try clear hcz42_1
          try clear hcz42_2
          try clear hcz44_0
          try clear hcz44_1
          try clear hcz44_2
          try clear hcz47_0
          try clear hcz47_1
          try clear hcz47_2
          try clear hcz47_3
          try clear hcz48_0
          try clear hcz48_1
          try clear hcz48_2
          try clear hcz50_0
          try clear hcz50_1
          try clear hcz50_2
          try clear hfz13_0
          try clear hfz13_1
          try clear hfz13_2
          try clear hfz13_3
          try clear hfz15_0
          try clear hfz15_1
          try clear hfz15_2
          try clear hfz18_0
          try clear hfz18_1
          try clear hfz18_2
          try clear hfz18_3
          try clear hfz26_0
          try clear hfz26_1
          try clear hfz26_2
          try clear hfz26_3
          try clear hfz27_0
          try clear hfz27_1
          try clear hfz27_2
          try clear hfz29_0
          try clear hfz29_1
          try clear hfz29_2
          try clear hfz29_3
          try clear hfz30_0
          try clear hfz30_1
          try clear hfz30_2
          try clear hfz35_0
          try clear hfz35_1
          try clear hfz35_2
          try clear hfz35_3
          try clear hfz36_0
          try clear hfz36_1
          try clear hfz36_2
          try clear hfz41_0
          try clear hfz41_1
          try clear hfz41_2
          try clear hfz41_3
          try clear hfz42_0
          try clear hfz42_1
          try clear hfz42_2
          try clear hfz44_0
          try clear hfz44_1
          try clear hfz44_2
          try clear hfz47_0
          try clear hfz47_1
          try clear hfz47_2
          try clear hfz47_3
          try clear hfz48_0
          try clear hfz48_1
          try clear hfz48_2
          try clear hfz50_0
          try clear hfz50_1
          try clear hfz50_2
          try clear p2
          obtain ⟨kq, x63_23, rfl, HA, HJ23, BK135, BK136, HB⟩ := hcut
          cases kq with
          | zero => exact absurd HA.out (by simp [spec_WantOf.j1])
          | succ kj23 =>
            have H := HA.out
            clear HA
            simp only [spec_WantOf.j1] at H
            by_cases c52 : x63_23 = true
            · subst c52
              have H1 : (some a0) = some r := by rw [if_pos rfl] at H; exact H
              clear H
              have H := H1
              clear H1
              obtain rfl := Option.some.inj H
              go_wp2
              go_ret
              exact ⟨by first | rfl | (simp [errW_none, errW_some] <;> rfl) | (simp [*, errW_none, errW_some] <;> rfl), by repeat (first | (with_reducible first | exact HB.out | apply below_alloc | apply pw_below_drewN | apply below_drew1 | refine below_set ?_ GE135.out | refine below_set ?_ GE136.out) | exact HB.out)⟩
            · replace c52 := Bool.eq_false_iff.mpr c52
              subst c52
              have H1 : ((spec_CeilDiv.f t140 a2_1).bind fun t146 => (if t146 > 1000 then (if t143 = 1 then (if 1000 < a0 then (some a0) else (if t143 = (-1) then (if 1000 > a0 then (some a0) else (some 1000)) else (some 1000))) else (if t143 = (-1) then (if 1000 > a0 then (some a0) else (some 1000)) else (some 1000))) else (if t143 = 1 then (if t146 < a0 then (some a0) else (if t143 = (-1) then (if t146 > a0 then (some a0) else (some t146)) else (some t146))) else (if t143 = (-1) then (if t146 > a0 then (some a0) else (some t146)) else (some t146))))) = some r := by rw [if_neg (show ¬ (false = true) by decide)] at H; exact H
              clear H
              have H := H1
              clear H1
              replace H := Option.bind_eq_some_iff.mp H
              obtain ⟨t146, A530, H⟩ := H
              replace H : (if t146 > 1000 then (if t143 = 1 then (if 1000 < a0 then (some a0) else (if t143 = (-1) then (if 1000 > a0 then (some a0) else (some 1000)) else (some 1000))) else (if t143 = (-1) then (if 1000 > a0 then (some a0) else (some 1000)) else (some 1000))) else (if t143 = 1 then (if t146 < a0 then (some a0) else (if t143 = (-1) then (if t146 > a0 then (some a0) else (some t146)) else (some t146))) else (if t143 = (-1) then (if t146 > a0 then (some a0) else (some t146)) else (some t146)))) = some r := H
              have A53 := Aside0.mk A530
              clear A530
              by_cases c54 : t146 > 1000
              · rw [if_pos c54] at H
                have c54b0 : decide (1000 < t146) = true := decide_eq_true c54
                clear c54
                by_cases c55 : t143 = 1
                · rw [if_pos c55] at H
                  have c55b0 : (t143 == 1) = true := beq_iff_eq.mpr c55
                  have c55b1 : (t143 != 1) = false := bne_eq_false_iff_eq.mpr c55
                  clear c55
                  by_cases c56 : 1000 < a0
                  · rw [if_pos c56] at H
                    have c56b0 : decide (1000 < a0) = true := decide_eq_true c56
                    clear c56
                    obtain rfl := Option.some.inj H
                    have hnb57 := NB136_135.out
                    have hnc57 := NB135_136.out
                    have hcz58_0 : wc.cell? ⟨gb136, 0, none⟩ = some (.string a2_0) := (blk_cell BK136.out 0).trans rfl
                    have hcz58_1 : wc.cell? ⟨gb136, 1, none⟩ = some (.int .i64 a2_1) := (blk_cell BK136.out 1).trans rfl
                    have hcz58_2 : wc.cell? ⟨gb136, 2, none⟩ = some (.int .i64 a2_2) := (blk_cell BK136.out 2).trans rfl
                    have hfz58_0 := blk_frozen BK136.out 0
                    have hfz58_1 := blk_frozen BK136.out 1
                    have hfz58_2 := blk_frozen BK136.out 2
                    go_wp2_with (first | ((with_reducible refine gate_callee (f := 39) rfl ?_); refine goesL_ (some 68) rfl rfl Try.func39 (by kernel_rfl) rfl #[.int .i64 t140, .int .i64 a2_1] rfl (by (try simp only [List.map_toArray, List.map_cons, List.map_nil]); first | done | rfl | (simp only [List.length_drop, List.length_take]; rfl)) ?_; (with_reducible refine (spec_CeilDiv.calls t140 a2_1 t146 _ A53.out).mono ?_); rintro e w' ⟨rfl, ⟨nd, rfl⟩⟩; refine ⟨_, rfl, ?_⟩))
                    go_ret
                    exact ⟨by first | rfl | (simp [errW_none, errW_some] <;> rfl) | (simp [*, errW_none, errW_some] <;> rfl), by repeat (first | (with_reducible first | exact HB.out | apply below_alloc | apply pw_below_drewN | apply below_drew1 | refine below_set ?_ GE135.out | refine below_set ?_ GE136.out) | exact HB.out)⟩
                  · rw [if_neg c56] at H
                    have c56b0 : decide (1000 < a0) = false := decide_eq_false c56
                    clear c56
                    by_cases c59 : t143 = (-1)
                    · rw [if_pos c59] at H
                      have c59b0 : (t143 == (-1)) = true := beq_iff_eq.mpr c59
                      have c59b1 : (t143 != (-1)) = false := bne_eq_false_iff_eq.mpr c59
                      clear c59
                      by_cases c60 : 1000 > a0
                      · rw [if_pos c60] at H
                        have c60b0 : decide (a0 < 1000) = true := decide_eq_true c60
                        clear c60
                        obtain rfl := Option.some.inj H
                        have hnb61 := NB136_135.out
                        have hnc61 := NB135_136.out
                        have hcz62_0 : wc.cell? ⟨gb136, 0, none⟩ = some (.string a2_0) := (blk_cell BK136.out 0).trans rfl
                        have hcz62_1 : wc.cell? ⟨gb136, 1, none⟩ = some (.int .i64 a2_1) := (blk_cell BK136.out 1).trans rfl
                        have hcz62_2 : wc.cell? ⟨gb136, 2, none⟩ = some (.int .i64 a2_2) := (blk_cell BK136.out 2).trans rfl
                        have hfz62_0 := blk_frozen BK136.out 0
                        have hfz62_1 := blk_frozen BK136.out 1
                        have hfz62_2 := blk_frozen BK136.out 2
                        go_wp2_with (first | ((with_reducible refine gate_callee (f := 39) rfl ?_); refine goesL_ (some 68) rfl rfl Try.func39 (by kernel_rfl) rfl #[.int .i64 t140, .int .i64 a2_1] rfl (by (try simp only [List.map_toArray, List.map_cons, List.map_nil]); first | done | rfl | (simp only [List.length_drop, List.length_take]; rfl)) ?_; (with_reducible refine (spec_CeilDiv.calls t140 a2_1 t146 _ A53.out).mono ?_); rintro e w' ⟨rfl, ⟨nd, rfl⟩⟩; refine ⟨_, rfl, ?_⟩))
                        go_ret
                        exact ⟨by first | rfl | (simp [errW_none, errW_some] <;> rfl) | (simp [*, errW_none, errW_some] <;> rfl), by repeat (first | (with_reducible first | exact HB.out | apply below_alloc | apply pw_below_drewN | apply below_drew1 | refine below_set ?_ GE135.out | refine below_set ?_ GE136.out) | exact HB.out)⟩
                      · rw [if_neg c60] at H
                        have c60b0 : decide (a0 < 1000) = false := decide_eq_false c60
                        clear c60
                        obtain rfl := Option.some.inj H
                        have hnb63 := NB136_135.out
                        have hnc63 := NB135_136.out
                        have hcz64_0 : wc.cell? ⟨gb136, 0, none⟩ = some (.string a2_0) := (blk_cell BK136.out 0).trans rfl
                        have hcz64_1 : wc.cell? ⟨gb136, 1, none⟩ = some (.int .i64 a2_1) := (blk_cell BK136.out 1).trans rfl
                        have hcz64_2 : wc.cell? ⟨gb136, 2, none⟩ = some (.int .i64 a2_2) := (blk_cell BK136.out 2).trans rfl
                        have hfz64_0 := blk_frozen BK136.out 0
                        have hfz64_1 := blk_frozen BK136.out 1
                        have hfz64_2 := blk_frozen BK136.out 2
                        go_wp2_with (first | ((with_reducible refine gate_callee (f := 39) rfl ?_); refine goesL_ (some 68) rfl rfl Try.func39 (by kernel_rfl) rfl #[.int .i64 t140, .int .i64 a2_1] rfl (by (try simp only [List.map_toArray, List.map_cons, List.map_nil]); first | done | rfl | (simp only [List.length_drop, List.length_take]; rfl)) ?_; (with_reducible refine (spec_CeilDiv.calls t140 a2_1 t146 _ A53.out).mono ?_); rintro e w' ⟨rfl, ⟨nd, rfl⟩⟩; refine ⟨_, rfl, ?_⟩))
                        go_ret
                        exact ⟨by first | rfl | (simp [errW_none, errW_some] <;> rfl) | (simp [*, errW_none, errW_some] <;> rfl), by repeat (first | (with_reducible first | exact HB.out | apply below_alloc | apply pw_below_drewN | apply below_drew1 | refine below_set ?_ GE135.out | refine below_set ?_ GE136.out) | exact HB.out)⟩
                    · rw [if_neg c59] at H
                      have c59b0 : (t143 == (-1)) = false := beq_eq_false_iff_ne.mpr c59
                      have c59b1 : (t143 != (-1)) = true := bne_iff_ne.mpr c59
                      obtain rfl := Option.some.inj H
                      have hnb65 := NB136_135.out
                      have hnc65 := NB135_136.out
                      have hcz66_0 : wc.cell? ⟨gb136, 0, none⟩ = some (.string a2_0) := (blk_cell BK136.out 0).trans rfl
                      have hcz66_1 : wc.cell? ⟨gb136, 1, none⟩ = some (.int .i64 a2_1) := (blk_cell BK136.out 1).trans rfl
                      have hcz66_2 : wc.cell? ⟨gb136, 2, none⟩ = some (.int .i64 a2_2) := (blk_cell BK136.out 2).trans rfl
                      have hfz66_0 := blk_frozen BK136.out 0
                      have hfz66_1 := blk_frozen BK136.out 1
                      have hfz66_2 := blk_frozen BK136.out 2
                      go_wp2_with (first | ((with_reducible refine gate_callee (f := 39) rfl ?_); refine goesL_ (some 68) rfl rfl Try.func39 (by kernel_rfl) rfl #[.int .i64 t140, .int .i64 a2_1] rfl (by (try simp only [List.map_toArray, List.map_cons, List.map_nil]); first | done | rfl | (simp only [List.length_drop, List.length_take]; rfl)) ?_; (with_reducible refine (spec_CeilDiv.calls t140 a2_1 t146 _ A53.out).mono ?_); rintro e w' ⟨rfl, ⟨nd, rfl⟩⟩; refine ⟨_, rfl, ?_⟩))
                      go_ret
                      exact ⟨by first | rfl | (simp [errW_none, errW_some] <;> rfl) | (simp [*, errW_none, errW_some] <;> rfl), by repeat (first | (with_reducible first | exact HB.out | apply below_alloc | apply pw_below_drewN | apply below_drew1 | refine below_set ?_ GE135.out | refine below_set ?_ GE136.out) | exact HB.out)⟩
                · rw [if_neg c55] at H
                  have c55b0 : (t143 == 1) = false := beq_eq_false_iff_ne.mpr c55
                  have c55b1 : (t143 != 1) = true := bne_iff_ne.mpr c55
                  by_cases c67 : t143 = (-1)
                  · rw [if_pos c67] at H
                    have c67b0 : (t143 == (-1)) = true := beq_iff_eq.mpr c67
                    have c67b1 : (t143 != (-1)) = false := bne_eq_false_iff_eq.mpr c67
                    clear c67
                    by_cases c68 : 1000 > a0
                    · rw [if_pos c68] at H
                      have c68b0 : decide (a0 < 1000) = true := decide_eq_true c68
                      clear c68
                      obtain rfl := Option.some.inj H
                      have hnb69 := NB136_135.out
                      have hnc69 := NB135_136.out
                      have hcz70_0 : wc.cell? ⟨gb136, 0, none⟩ = some (.string a2_0) := (blk_cell BK136.out 0).trans rfl
                      have hcz70_1 : wc.cell? ⟨gb136, 1, none⟩ = some (.int .i64 a2_1) := (blk_cell BK136.out 1).trans rfl
                      have hcz70_2 : wc.cell? ⟨gb136, 2, none⟩ = some (.int .i64 a2_2) := (blk_cell BK136.out 2).trans rfl
                      have hfz70_0 := blk_frozen BK136.out 0
                      have hfz70_1 := blk_frozen BK136.out 1
                      have hfz70_2 := blk_frozen BK136.out 2
                      go_wp2_with (first | ((with_reducible refine gate_callee (f := 39) rfl ?_); refine goesL_ (some 68) rfl rfl Try.func39 (by kernel_rfl) rfl #[.int .i64 t140, .int .i64 a2_1] rfl (by (try simp only [List.map_toArray, List.map_cons, List.map_nil]); first | done | rfl | (simp only [List.length_drop, List.length_take]; rfl)) ?_; (with_reducible refine (spec_CeilDiv.calls t140 a2_1 t146 _ A53.out).mono ?_); rintro e w' ⟨rfl, ⟨nd, rfl⟩⟩; refine ⟨_, rfl, ?_⟩))
                      go_ret
                      exact ⟨by first | rfl | (simp [errW_none, errW_some] <;> rfl) | (simp [*, errW_none, errW_some] <;> rfl), by repeat (first | (with_reducible first | exact HB.out | apply below_alloc | apply pw_below_drewN | apply below_drew1 | refine below_set ?_ GE135.out | refine below_set ?_ GE136.out) | exact HB.out)⟩
                    · rw [if_neg c68] at H
                      have c68b0 : decide (a0 < 1000) = false := decide_eq_false c68
                      clear c68
                      obtain rfl := Option.some.inj H
                      have hnb71 := NB136_135.out
                      have hnc71 := NB135_136.out
                      have hcz72_0 : wc.cell? ⟨gb136, 0, none⟩ = some (.string a2_0) := (blk_cell BK136.out 0).trans rfl
                      have hcz72_1 : wc.cell? ⟨gb136, 1, none⟩ = some (.int .i64 a2_1) := (blk_cell BK136.out 1).trans rfl
                      have hcz72_2 : wc.cell? ⟨gb136, 2, none⟩ = some (.int .i64 a2_2) := (blk_cell BK136.out 2).trans rfl
                      have hfz72_0 := blk_frozen BK136.out 0
                      have hfz72_1 := blk_frozen BK136.out 1
                      have hfz72_2 := blk_frozen BK136.out 2
                      go_wp2_with (first | ((with_reducible refine gate_callee (f := 39) rfl ?_); refine goesL_ (some 68) rfl rfl Try.func39 (by kernel_rfl) rfl #[.int .i64 t140, .int .i64 a2_1] rfl (by (try simp only [List.map_toArray, List.map_cons, List.map_nil]); first | done | rfl | (simp only [List.length_drop, List.length_take]; rfl)) ?_; (with_reducible refine (spec_CeilDiv.calls t140 a2_1 t146 _ A53.out).mono ?_); rintro e w' ⟨rfl, ⟨nd, rfl⟩⟩; refine ⟨_, rfl, ?_⟩))
                      go_ret
                      exact ⟨by first | rfl | (simp [errW_none, errW_some] <;> rfl) | (simp [*, errW_none, errW_some] <;> rfl), by repeat (first | (with_reducible first | exact HB.out | apply below_alloc | apply pw_below_drewN | apply below_drew1 | refine below_set ?_ GE135.out | refine below_set ?_ GE136.out) | exact HB.out)⟩
                  · rw [if_neg c67] at H
                    have c67b0 : (t143 == (-1)) = false := beq_eq_false_iff_ne.mpr c67
                    have c67b1 : (t143 != (-1)) = true := bne_iff_ne.mpr c67
                    obtain rfl := Option.some.inj H
                    have hnb73 := NB136_135.out
                    have hnc73 := NB135_136.out
                    have hcz74_0 : wc.cell? ⟨gb136, 0, none⟩ = some (.string a2_0) := (blk_cell BK136.out 0).trans rfl
                    have hcz74_1 : wc.cell? ⟨gb136, 1, none⟩ = some (.int .i64 a2_1) := (blk_cell BK136.out 1).trans rfl
                    have hcz74_2 : wc.cell? ⟨gb136, 2, none⟩ = some (.int .i64 a2_2) := (blk_cell BK136.out 2).trans rfl
                    have hfz74_0 := blk_frozen BK136.out 0
                    have hfz74_1 := blk_frozen BK136.out 1
                    have hfz74_2 := blk_frozen BK136.out 2
                    go_wp2_with (first | ((with_reducible refine gate_callee (f := 39) rfl ?_); refine goesL_ (some 68) rfl rfl Try.func39 (by kernel_rfl) rfl #[.int .i64 t140, .int .i64 a2_1] rfl (by (try simp only [List.map_toArray, List.map_cons, List.map_nil]); first | done | rfl | (simp only [List.length_drop, List.length_take]; rfl)) ?_; (with_reducible refine (spec_CeilDiv.calls t140 a2_1 t146 _ A53.out).mono ?_); rintro e w' ⟨rfl, ⟨nd, rfl⟩⟩; refine ⟨_, rfl, ?_⟩))
                    go_ret
                    exact ⟨by first | rfl | (simp [errW_none, errW_some] <;> rfl) | (simp [*, errW_none, errW_some] <;> rfl), by repeat (first | (with_reducible first | exact HB.out | apply below_alloc | apply pw_below_drewN | apply below_drew1 | refine below_set ?_ GE135.out | refine below_set ?_ GE136.out) | exact HB.out)⟩
              · rw [if_neg c54] at H
                have c54b0 : decide (1000 < t146) = false := decide_eq_false c54
                clear c54
                by_cases c75 : t143 = 1
                · rw [if_pos c75] at H
                  have c75b0 : (t143 == 1) = true := beq_iff_eq.mpr c75
                  have c75b1 : (t143 != 1) = false := bne_eq_false_iff_eq.mpr c75
                  clear c75
                  by_cases c76 : t146 < a0
                  · rw [if_pos c76] at H
                    have c76b0 : decide (t146 < a0) = true := decide_eq_true c76
                    clear c76
                    obtain rfl := Option.some.inj H
                    have hnb77 := NB136_135.out
                    have hnc77 := NB135_136.out
                    have hcz78_0 : wc.cell? ⟨gb136, 0, none⟩ = some (.string a2_0) := (blk_cell BK136.out 0).trans rfl
                    have hcz78_1 : wc.cell? ⟨gb136, 1, none⟩ = some (.int .i64 a2_1) := (blk_cell BK136.out 1).trans rfl
                    have hcz78_2 : wc.cell? ⟨gb136, 2, none⟩ = some (.int .i64 a2_2) := (blk_cell BK136.out 2).trans rfl
                    have hfz78_0 := blk_frozen BK136.out 0
                    have hfz78_1 := blk_frozen BK136.out 1
                    have hfz78_2 := blk_frozen BK136.out 2
                    go_wp2_with (first | ((with_reducible refine gate_callee (f := 39) rfl ?_); refine goesL_ (some 68) rfl rfl Try.func39 (by kernel_rfl) rfl #[.int .i64 t140, .int .i64 a2_1] rfl (by (try simp only [List.map_toArray, List.map_cons, List.map_nil]); first | done | rfl | (simp only [List.length_drop, List.length_take]; rfl)) ?_; (with_reducible refine (spec_CeilDiv.calls t140 a2_1 t146 _ A53.out).mono ?_); rintro e w' ⟨rfl, ⟨nd, rfl⟩⟩; refine ⟨_, rfl, ?_⟩))
                    go_ret
                    exact ⟨by first | rfl | (simp [errW_none, errW_some] <;> rfl) | (simp [*, errW_none, errW_some] <;> rfl), by repeat (first | (with_reducible first | exact HB.out | apply below_alloc | apply pw_below_drewN | apply below_drew1 | refine below_set ?_ GE135.out | refine below_set ?_ GE136.out) | exact HB.out)⟩
                  · rw [if_neg c76] at H
                    have c76b0 : decide (t146 < a0) = false := decide_eq_false c76
                    clear c76
                    by_cases c79 : t143 = (-1)
                    · rw [if_pos c79] at H
                      have c79b0 : (t143 == (-1)) = true := beq_iff_eq.mpr c79
                      have c79b1 : (t143 != (-1)) = false := bne_eq_false_iff_eq.mpr c79
                      clear c79
                      by_cases c80 : t146 > a0
                      · rw [if_pos c80] at H
                        have c80b0 : decide (a0 < t146) = true := decide_eq_true c80
                        clear c80
                        obtain rfl := Option.some.inj H
                        have hnb81 := NB136_135.out
                        have hnc81 := NB135_136.out
                        have hcz82_0 : wc.cell? ⟨gb136, 0, none⟩ = some (.string a2_0) := (blk_cell BK136.out 0).trans rfl
                        have hcz82_1 : wc.cell? ⟨gb136, 1, none⟩ = some (.int .i64 a2_1) := (blk_cell BK136.out 1).trans rfl
                        have hcz82_2 : wc.cell? ⟨gb136, 2, none⟩ = some (.int .i64 a2_2) := (blk_cell BK136.out 2).trans rfl
                        have hfz82_0 := blk_frozen BK136.out 0
                        have hfz82_1 := blk_frozen BK136.out 1
                        have hfz82_2 := blk_frozen BK136.out 2
                        go_wp2_with (first | ((with_reducible refine gate_callee (f := 39) rfl ?_); refine goesL_ (some 68) rfl rfl Try.func39 (by kernel_rfl) rfl #[.int .i64 t140, .int .i64 a2_1] rfl (by (try simp only [List.map_toArray, List.map_cons, List.map_nil]); first | done | rfl | (simp only [List.length_drop, List.length_take]; rfl)) ?_; (with_reducible refine (spec_CeilDiv.calls t140 a2_1 t146 _ A53.out).mono ?_); rintro e w' ⟨rfl, ⟨nd, rfl⟩⟩; refine ⟨_, rfl, ?_⟩))
                        go_ret
                        exact ⟨by first | rfl | (simp [errW_none, errW_some] <;> rfl) | (simp [*, errW_none, errW_some] <;> rfl), by repeat (first | (with_reducible first | exact HB.out | apply below_alloc | apply pw_below_drewN | apply below_drew1 | refine below_set ?_ GE135.out | refine below_set ?_ GE136.out) | exact HB.out)⟩
                      · rw [if_neg c80] at H
                        have c80b0 : decide (a0 < t146) = false := decide_eq_false c80
                        clear c80
                        obtain rfl := Option.some.inj H
                        have hnb83 := NB136_135.out
                        have hnc83 := NB135_136.out
                        have hcz84_0 : wc.cell? ⟨gb136, 0, none⟩ = some (.string a2_0) := (blk_cell BK136.out 0).trans rfl
                        have hcz84_1 : wc.cell? ⟨gb136, 1, none⟩ = some (.int .i64 a2_1) := (blk_cell BK136.out 1).trans rfl
                        have hcz84_2 : wc.cell? ⟨gb136, 2, none⟩ = some (.int .i64 a2_2) := (blk_cell BK136.out 2).trans rfl
                        have hfz84_0 := blk_frozen BK136.out 0
                        have hfz84_1 := blk_frozen BK136.out 1
                        have hfz84_2 := blk_frozen BK136.out 2
                        go_wp2_with (first | ((with_reducible refine gate_callee (f := 39) rfl ?_); refine goesL_ (some 68) rfl rfl Try.func39 (by kernel_rfl) rfl #[.int .i64 t140, .int .i64 a2_1] rfl (by (try simp only [List.map_toArray, List.map_cons, List.map_nil]); first | done | rfl | (simp only [List.length_drop, List.length_take]; rfl)) ?_; (with_reducible refine (spec_CeilDiv.calls t140 a2_1 t146 _ A53.out).mono ?_); rintro e w' ⟨rfl, ⟨nd, rfl⟩⟩; refine ⟨_, rfl, ?_⟩))
                        go_ret
                        exact ⟨by first | rfl | (simp [errW_none, errW_some] <;> rfl) | (simp [*, errW_none, errW_some] <;> rfl), by repeat (first | (with_reducible first | exact HB.out | apply below_alloc | apply pw_below_drewN | apply below_drew1 | refine below_set ?_ GE135.out | refine below_set ?_ GE136.out) | exact HB.out)⟩
                    · rw [if_neg c79] at H
                      have c79b0 : (t143 == (-1)) = false := beq_eq_false_iff_ne.mpr c79
                      have c79b1 : (t143 != (-1)) = true := bne_iff_ne.mpr c79
                      obtain rfl := Option.some.inj H
                      have hnb85 := NB136_135.out
                      have hnc85 := NB135_136.out
                      have hcz86_0 : wc.cell? ⟨gb136, 0, none⟩ = some (.string a2_0) := (blk_cell BK136.out 0).trans rfl
                      have hcz86_1 : wc.cell? ⟨gb136, 1, none⟩ = some (.int .i64 a2_1) := (blk_cell BK136.out 1).trans rfl
                      have hcz86_2 : wc.cell? ⟨gb136, 2, none⟩ = some (.int .i64 a2_2) := (blk_cell BK136.out 2).trans rfl
                      have hfz86_0 := blk_frozen BK136.out 0
                      have hfz86_1 := blk_frozen BK136.out 1
                      have hfz86_2 := blk_frozen BK136.out 2
                      go_wp2_with (first | ((with_reducible refine gate_callee (f := 39) rfl ?_); refine goesL_ (some 68) rfl rfl Try.func39 (by kernel_rfl) rfl #[.int .i64 t140, .int .i64 a2_1] rfl (by (try simp only [List.map_toArray, List.map_cons, List.map_nil]); first | done | rfl | (simp only [List.length_drop, List.length_take]; rfl)) ?_; (with_reducible refine (spec_CeilDiv.calls t140 a2_1 t146 _ A53.out).mono ?_); rintro e w' ⟨rfl, ⟨nd, rfl⟩⟩; refine ⟨_, rfl, ?_⟩))
                      go_ret
                      exact ⟨by first | rfl | (simp [errW_none, errW_some] <;> rfl) | (simp [*, errW_none, errW_some] <;> rfl), by repeat (first | (with_reducible first | exact HB.out | apply below_alloc | apply pw_below_drewN | apply below_drew1 | refine below_set ?_ GE135.out | refine below_set ?_ GE136.out) | exact HB.out)⟩
                · rw [if_neg c75] at H
                  have c75b0 : (t143 == 1) = false := beq_eq_false_iff_ne.mpr c75
                  have c75b1 : (t143 != 1) = true := bne_iff_ne.mpr c75
                  by_cases c87 : t143 = (-1)
                  · rw [if_pos c87] at H
                    have c87b0 : (t143 == (-1)) = true := beq_iff_eq.mpr c87
                    have c87b1 : (t143 != (-1)) = false := bne_eq_false_iff_eq.mpr c87
                    clear c87
                    by_cases c88 : t146 > a0
                    · rw [if_pos c88] at H
                      have c88b0 : decide (a0 < t146) = true := decide_eq_true c88
                      clear c88
                      obtain rfl := Option.some.inj H
                      have hnb89 := NB136_135.out
                      have hnc89 := NB135_136.out
                      have hcz90_0 : wc.cell? ⟨gb136, 0, none⟩ = some (.string a2_0) := (blk_cell BK136.out 0).trans rfl
                      have hcz90_1 : wc.cell? ⟨gb136, 1, none⟩ = some (.int .i64 a2_1) := (blk_cell BK136.out 1).trans rfl
                      have hcz90_2 : wc.cell? ⟨gb136, 2, none⟩ = some (.int .i64 a2_2) := (blk_cell BK136.out 2).trans rfl
                      have hfz90_0 := blk_frozen BK136.out 0
                      have hfz90_1 := blk_frozen BK136.out 1
                      have hfz90_2 := blk_frozen BK136.out 2
                      go_wp2_with (first | ((with_reducible refine gate_callee (f := 39) rfl ?_); refine goesL_ (some 68) rfl rfl Try.func39 (by kernel_rfl) rfl #[.int .i64 t140, .int .i64 a2_1] rfl (by (try simp only [List.map_toArray, List.map_cons, List.map_nil]); first | done | rfl | (simp only [List.length_drop, List.length_take]; rfl)) ?_; (with_reducible refine (spec_CeilDiv.calls t140 a2_1 t146 _ A53.out).mono ?_); rintro e w' ⟨rfl, ⟨nd, rfl⟩⟩; refine ⟨_, rfl, ?_⟩))
                      go_ret
                      exact ⟨by first | rfl | (simp [errW_none, errW_some] <;> rfl) | (simp [*, errW_none, errW_some] <;> rfl), by repeat (first | (with_reducible first | exact HB.out | apply below_alloc | apply pw_below_drewN | apply below_drew1 | refine below_set ?_ GE135.out | refine below_set ?_ GE136.out) | exact HB.out)⟩
                    · rw [if_neg c88] at H
                      have c88b0 : decide (a0 < t146) = false := decide_eq_false c88
                      clear c88
                      obtain rfl := Option.some.inj H
                      have hnb91 := NB136_135.out
                      have hnc91 := NB135_136.out
                      have hcz92_0 : wc.cell? ⟨gb136, 0, none⟩ = some (.string a2_0) := (blk_cell BK136.out 0).trans rfl
                      have hcz92_1 : wc.cell? ⟨gb136, 1, none⟩ = some (.int .i64 a2_1) := (blk_cell BK136.out 1).trans rfl
                      have hcz92_2 : wc.cell? ⟨gb136, 2, none⟩ = some (.int .i64 a2_2) := (blk_cell BK136.out 2).trans rfl
                      have hfz92_0 := blk_frozen BK136.out 0
                      have hfz92_1 := blk_frozen BK136.out 1
                      have hfz92_2 := blk_frozen BK136.out 2
                      go_wp2_with (first | ((with_reducible refine gate_callee (f := 39) rfl ?_); refine goesL_ (some 68) rfl rfl Try.func39 (by kernel_rfl) rfl #[.int .i64 t140, .int .i64 a2_1] rfl (by (try simp only [List.map_toArray, List.map_cons, List.map_nil]); first | done | rfl | (simp only [List.length_drop, List.length_take]; rfl)) ?_; (with_reducible refine (spec_CeilDiv.calls t140 a2_1 t146 _ A53.out).mono ?_); rintro e w' ⟨rfl, ⟨nd, rfl⟩⟩; refine ⟨_, rfl, ?_⟩))
                      go_ret
                      exact ⟨by first | rfl | (simp [errW_none, errW_some] <;> rfl) | (simp [*, errW_none, errW_some] <;> rfl), by repeat (first | (with_reducible first | exact HB.out | apply below_alloc | apply pw_below_drewN | apply below_drew1 | refine below_set ?_ GE135.out | refine below_set ?_ GE136.out) | exact HB.out)⟩
                  · rw [if_neg c87] at H
                    have c87b0 : (t143 == (-1)) = false := beq_eq_false_iff_ne.mpr c87
                    have c87b1 : (t143 != (-1)) = true := bne_iff_ne.mpr c87
                    obtain rfl := Option.some.inj H
                    have hnb93 := NB136_135.out
                    have hnc93 := NB135_136.out
                    have hcz94_0 : wc.cell? ⟨gb136, 0, none⟩ = some (.string a2_0) := (blk_cell BK136.out 0).trans rfl
                    have hcz94_1 : wc.cell? ⟨gb136, 1, none⟩ = some (.int .i64 a2_1) := (blk_cell BK136.out 1).trans rfl
                    have hcz94_2 : wc.cell? ⟨gb136, 2, none⟩ = some (.int .i64 a2_2) := (blk_cell BK136.out 2).trans rfl
                    have hfz94_0 := blk_frozen BK136.out 0
                    have hfz94_1 := blk_frozen BK136.out 1
                    have hfz94_2 := blk_frozen BK136.out 2
                    go_wp2_with (first | ((with_reducible refine gate_callee (f := 39) rfl ?_); refine goesL_ (some 68) rfl rfl Try.func39 (by kernel_rfl) rfl #[.int .i64 t140, .int .i64 a2_1] rfl (by (try simp only [List.map_toArray, List.map_cons, List.map_nil]); first | done | rfl | (simp only [List.length_drop, List.length_take]; rfl)) ?_; (with_reducible refine (spec_CeilDiv.calls t140 a2_1 t146 _ A53.out).mono ?_); rintro e w' ⟨rfl, ⟨nd, rfl⟩⟩; refine ⟨_, rfl, ?_⟩))
                    go_ret
                    exact ⟨by first | rfl | (simp [errW_none, errW_some] <;> rfl) | (simp [*, errW_none, errW_some] <;> rfl), by repeat (first | (with_reducible first | exact HB.out | apply below_alloc | apply pw_below_drewN | apply below_drew1 | refine below_set ?_ GE135.out | refine below_set ?_ GE136.out) | exact HB.out)⟩

/-! ### impl_in: function 48 -/
def impl_in.f (a0 : Int) (a1 : Int) (a2 : Int) : Option (Bool) := if a0 ≥ a1 then (some (decide (a0 ≤ a2))) else (some false)
set_option maxHeartbeats 8000000 in
set_option maxRecDepth 100000 in
theorem impl_in.calls (a0 : Int) (a1 : Int) (a2 : Int) (r : Bool) (w : World) (h : impl_in.f a0 a1 a2 = some r) :
    Calls Try.prog 48 #[.int .i64 a0, .int .i64 a1, .int .i64 a2] w fun e w' => e = .returned (.bool r) ∧ Drawn0 w w' := by
  have H : (if a0 ≥ a1 then (some (decide (a0 ≤ a2))) else (some false)) = some r := h
  clear h
  by_cases c4 : a0 ≥ a1
  · rw [if_pos c4] at H
    have c4b0 : decide (a1 ≤ a0) = true := decide_eq_true c4
    clear c4
    obtain rfl := Option.some.inj H
    go_enter Try.func48, Try.ntmps48
    go_wp2
    go_ret
    exact ⟨by first | rfl | (simp; done) | (simp [*]; done), by repeat (first | exact Drawn0.refl _ | apply Drawn0.step)⟩
  · rw [if_neg c4] at H
    have c4b0 : decide (a1 ≤ a0) = false := decide_eq_false c4
    clear c4
    obtain rfl := Option.some.inj H
    go_enter Try.func48, Try.ntmps48
    go_wp2
    go_ret
    exact ⟨by first | rfl | (simp; done) | (simp [*]; done), by repeat (first | exact Drawn0.refl _ | apply Drawn0.step)⟩

/-! ### impl_isSize: function 47 -/
def impl_isSize.f (a0 : Int) : Option (Bool) := (impl_in.f a0 0 1000000000).bind fun t147 => (some t147)
set_option maxHeartbeats 8000000 in
set_option maxRecDepth 100000 in
theorem impl_isSize.calls (a0 : Int) (r : Bool) (w : World) (h : impl_isSize.f a0 = some r) :
    Calls Try.prog 47 #[.int .i64 a0] w fun e w' => e = .returned (.bool r) ∧ Drawn0 w w' := by
  have H : ((impl_in.f a0 0 1000000000).bind fun t147 => (some t147)) = some r := h
  clear h
  replace H := Option.bind_eq_some_iff.mp H
  obtain ⟨t147, A20, H⟩ := H
  replace H : (some t147) = some r := H
  have A2 := Aside0.mk A20
  clear A20
  obtain rfl := Option.some.inj H
  go_enter Try.func47, Try.ntmps47
  go_wp2_with (first | ((with_reducible refine gate_callee (f := 48) rfl ?_); refine goesL_ (some 4) rfl rfl Try.func48 (by kernel_rfl) rfl #[.int .i64 a0, .int .i64 0, .int .i64 1000000000] rfl (by (try simp only [List.map_toArray, List.map_cons, List.map_nil]); first | done | rfl | (simp only [List.length_drop, List.length_take]; rfl)) ?_; (with_reducible refine (impl_in.calls a0 0 1000000000 t147 _ A2.out).mono ?_); rintro e w' ⟨rfl, ⟨nd, rfl⟩⟩; refine ⟨_, rfl, ?_⟩))
  go_ret
  exact ⟨by first | rfl | (simp; done) | (simp [*]; done), by repeat (first | exact Drawn0.refl _ | apply Drawn0.step)⟩

/-! ### cmp_isNaN_int: function 63 -/
def cmp_isNaN_int.f (a0 : Int) : Option (Bool) := some (a0 != a0)
set_option maxHeartbeats 8000000 in
set_option maxRecDepth 100000 in
theorem cmp_isNaN_int.calls (a0 : Int) (r : Bool) (w : World) (h : cmp_isNaN_int.f a0 = some r) :
    Calls Try.prog 63 #[.int .i64 a0] w fun e w' => e = .returned (.bool r) ∧ Drawn0 w w' := by
  have H : (some (a0 != a0)) = some r := h
  clear h
  obtain rfl := Option.some.inj H
  go_enter Try.func63, Try.ntmps63
  go_wp2
  go_ret
  exact ⟨by first | rfl | (simp; done) | (simp [*]; done), by repeat (first | exact Drawn0.refl _ | apply Drawn0.step)⟩

end Go.Proofs.Ytpoabjpglfbolaa.PFnExactWantOf
