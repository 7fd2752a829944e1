/- What the Go functions spec.ParseSample compute, as Lean functions, and the proof that each call comes to just that. Conditions: those at each theorem. -/
import Derived.Test.YtbbnlagdahickaaGreatDoorOFnSamplesx0
import Derived.Test.YtbbnlagdahickaaGreatDoorOFnSamplesx3
import Derived.Test.YtbbnlagdahickaaGreatDoorOFnSamplesx10
import Derived.Test.YtbbnlagdahickaaGreatDoorOFnSamplesx11
import Derived.Test.YtbbnlagdahickaaGreatDoorOFnSamplesx12
namespace Go.Proofs.YtbbnlagdahickaaGreatDoor.PFnSamples
open Go.RowKit Go.Proofs.YtbbnlagdahickaaGreatDoorW.PrintWords Go.Proofs.YtbbnlagdahickaaGreatDoorW.PrintLast Go.Proofs.YtbbnlagdahickaaGreatDoorW.PrintMore
attribute [local go_sem] max2_int min2_int max_two min_two max_three min_three max_four min_four   -- for this text's walks alone
set_option linter.unusedVariables false
set_option linter.unusedSimpArgs false
/-! ### spec_ParseSample: function 32 -/
def spec_ParseSample.f (k : Nat) (a0 : ByteArray) : Option (ByteArray × ByteArray × Int × Int × Bool) := if (a0.size : Int) > 60 then (some ((⟨#[]⟩ : ByteArray), (⟨#[]⟩ : ByteArray), 0, 0, false)) else ((spec_l01Parts.f k a0 32).bind fun t415 => (if (t415.length : Int) = 4 then (if 2 < (t415.length : Int) then ((spec_ParseMilli.f k (rdOf ByteArray.empty t415 2)).bind fun bt419 => (if 3 < (t415.length : Int) then ((spec_l01Read.f k (rdOf ByteArray.empty t415 3)).bind fun bt422 => (if 0 < (t415.length : Int) then (if 1 < (t415.length : Int) then (if bt419.2 = true then (if bt422.2 = true then ((spec_SampleOk.f k (rdOf ByteArray.empty t415 0) (rdOf ByteArray.empty t415 1) bt419.1 bt422.1).bind fun t427 => (if t427 = true then (some (rdOf ByteArray.empty t415 0, rdOf ByteArray.empty t415 1, bt419.1, bt422.1, true)) else (some ((⟨#[]⟩ : ByteArray), (⟨#[]⟩ : ByteArray), 0, 0, false)))) else (some ((⟨#[]⟩ : ByteArray), (⟨#[]⟩ : ByteArray), 0, 0, false))) else (some ((⟨#[]⟩ : ByteArray), (⟨#[]⟩ : ByteArray), 0, 0, false))) else (none)) else (none))) else (none))) else (none)) else (some ((⟨#[]⟩ : ByteArray), (⟨#[]⟩ : ByteArray), 0, 0, false))))
def spec_ParseSample.T9 : Bool × List (List Nat × List Nat) := (true, [([], []), ([0], [0]), ([1], [1]), ([], []), ([3], [3]), ([4], [4]), ([], []), ([], []), ([2, 5, 6, 7], [2, 5, 6, 7]), ([], []), ([9, 8, 0, 1, 2, 3, 4, 5, 6, 7, 8, 9], [8, 9])])
def spec_ParseSample.B9 : List Nat := [0, 1, 3, 0, 8, 24, 0, 0, 255, 0, 1023]
theorem spec_ParseSample.tab9 : rtab .any (opsOf Tryz.f32 9) = spec_ParseSample.T9 := by kernel_rfl
theorem spec_ParseSample.bits9 : waitsOk spec_ParseSample.T9.2 spec_ParseSample.B9 = true := by kernel_rfl
set_option maxHeartbeats 8000000 in
set_option maxRecDepth 100000 in
theorem spec_ParseSample.calls (k : Nat) (a0 : ByteArray) (r1 : ByteArray) (r2 : ByteArray) (r3 : Int) (r4 : Int) (r5 : Bool) (w : World) (h : spec_ParseSample.f k a0 = some (r1, r2, r3, r4, r5)) :
  Calls Tryz.prog 32 #[.string a0] w fun e w' => e = .returned (.tuple #[.agg #[.string r1, .string r2, .int .i64 r3, .int .i64 r4], .bool r5]) ∧ Below w.heap.size w w' := by
 have hu35 := Tryz.underlying35
 have HB := Aside0.mk (Below.refl w.heap.size w)
 have H : (if (a0.size : Int) > 60 then (some ((⟨#[]⟩ : ByteArray), (⟨#[]⟩ : ByteArray), 0, 0, false)) else ((spec_l01Parts.f k a0 32).bind fun t415 => (if (t415.length : Int) = 4 then (if 2 < (t415.length : Int) then ((spec_ParseMilli.f k (rdOf ByteArray.empty t415 2)).bind fun bt419 => (if 3 < (t415.length : Int) then ((spec_l01Read.f k (rdOf ByteArray.empty t415 3)).bind fun bt422 => (if 0 < (t415.length : Int) then (if 1 < (t415.length : Int) then (if bt419.2 = true then (if bt422.2 = true then ((spec_SampleOk.f k (rdOf ByteArray.empty t415 0) (rdOf ByteArray.empty t415 1) bt419.1 bt422.1).bind fun t427 => (if t427 = true then (some (rdOf ByteArray.empty t415 0, rdOf ByteArray.empty t415 1, bt419.1, bt422.1, true)) else (some ((⟨#[]⟩ : ByteArray), (⟨#[]⟩ : ByteArray), 0, 0, false)))) else (some ((⟨#[]⟩ : ByteArray), (⟨#[]⟩ : ByteArray), 0, 0, false))) else (some ((⟨#[]⟩ : ByteArray), (⟨#[]⟩ : ByteArray), 0, 0, false))) else (none)) else (none))) else (none))) else (none)) else (some ((⟨#[]⟩ : ByteArray), (⟨#[]⟩ : ByteArray), 0, 0, false))))) = some (r1, r2, r3, r4, r5) := h
 clear h
 by_cases c2 : (a0.size : Int) > 60
 ·rw [if_pos c2] at H
  have c2b0 : decide (60 < (a0.size : Int)) = true := decide_eq_true c2
  have c2b1 : decide (60 < a0.size) = true := decide_eq_true (by omega)
  clear c2
  simp only [Option.some.injEq, Prod.mk.injEq] at H
  obtain ⟨rfl, rfl, rfl, rfl, rfl⟩ := H
  go_enter Tryz.func32, Tryz.ntmps32
  go_wp2_with (first | ((with_reducible refine gate_dst (N := 2) rfl ?_); refine box_event ?hg (N := 2) ?hd (cs := #[.string (⟨#[]⟩ : ByteArray), .string (⟨#[]⟩ : ByteArray), .int .i64 0, .int .i64 0]) (t := 35) ?hr ?_; (case hd => rfl); (case hg => rfl); (case hr => first | (go_simp; done) | (go_simp; rfl)); intro gb413 hg w3 hbox hb; have n0_ := Aside0.mk (below_step chB hb); have n1_ := Aside0.mk (hbox); have n2_ := Aside0.mk ((by rw [hg]; exact (below_size chB) : w.heap.size ≤ gb413)); have n3_ := Aside0.mk ((by rw [hg]; exact (below_size chB) : w.heap.size ≤ gb413)); clear HB; have HB := n0_; have BK413 := n1_; have GW413 := n2_; have GE413 := n3_; clear n0_ n1_ n2_ n3_; clear hb hbox hg) | ((with_reducible refine gate_dst (N := 4) rfl ?_); refine box_event ?hg (N := 4) ?hd (cs := #[.string (⟨#[]⟩ : ByteArray), .string (⟨#[]⟩ : ByteArray), .int .i64 0, .int .i64 0]) (t := 35) ?hr ?_; (case hd => rfl); (case hg => rfl); (case hr => first | (go_simp; done) | (go_simp; rfl)); intro gb414 hg w4 hbox hb; have n0_ := Aside0.mk (blk_below (g := gb413) (o := .cells #[.string (⟨#[]⟩ : ByteArray), .string (⟨#[]⟩ : ByteArray), .int .i64 0, .int .i64 0] 35 (0, 0)) (blx BK413.out) hb); have n1_ := Aside0.mk (below_step chG hb); have n2_ := Aside0.mk (hbox); have n3_ := Aside0.mk ((by rw [hg]; exact (below_size chG) : w.heap.size ≤ gb414)); have n4_ := Aside0.mk ((by rw [hg]; exact (below_size chG) : w.heap.size ≤ gb414)); have n5_ := Aside0.mk ((by rw [hg]; exact Nat.ne_of_lt (blk_lt (g := gb413) (o := .cells #[.string (⟨#[]⟩ : ByteArray), .string (⟨#[]⟩ : ByteArray), .int .i64 0, .int .i64 0] 35 (0, 0)) (blx BK413.out)) : gb413 ≠ gb414)); have n6_ := Aside0.mk ((by rw [hg]; exact Nat.ne_of_gt (blk_lt (g := gb413) (o := .cells #[.string (⟨#[]⟩ : ByteArray), .string (⟨#[]⟩ : ByteArray), .int .i64 0, .int .i64 0] 35 (0, 0)) (blx BK413.out)) : gb414 ≠ gb413)); clear BK413; clear HB; have BK413 := n0_; have HB := n1_; have BK414 := n2_; have GW414 := n3_; have GE414 := n4_; have NB413_414 := n5_; have NB414_413 := n6_; clear n0_ n1_ n2_ n3_ n4_ n5_ n6_; clear hb hbox hg; have hnb5 := NB414_413.out; have hnc5 := NB413_414.out; obtain ⟨hcz6_0, hcz6_1, hcz6_2, hcz6_3, hfz6_0, hfz6_1, hfz6_2, hfz6_3⟩ := blk4 BK414.out; obtain ⟨hcz7_0, hcz7_1, hcz7_2, hcz7_3, hfz7_0, hfz7_1, hfz7_2, hfz7_3⟩ := blk4 BK413.out))
  refine bodyPost_ret (results_ct rfl _ _ gb413 35 #[.string (⟨#[]⟩ : ByteArray), .string (⟨#[]⟩ : ByteArray), .int .i64 0, .int .i64 0] (0, 0) _ rfl (by (with_reducible repeat (first | refine blk_drewN ?_ _ | refine blk_drew ?_ | refine blk_alloc ?_ _)); refine blk_put (cs := #[.string (⟨#[]⟩ : ByteArray), .string (⟨#[]⟩ : ByteArray), .int .i64 0, .int .i64 0]) ?_ 3 _ rfl; (with_reducible repeat (first | refine blk_drewN ?_ _ | refine blk_drew ?_ | refine blk_alloc ?_ _)); refine blk_put (cs := #[.string (⟨#[]⟩ : ByteArray), .string (⟨#[]⟩ : ByteArray), .int .i64 0, .int .i64 0]) ?_ 2 _ rfl; (with_reducible repeat (first | refine blk_drewN ?_ _ | refine blk_drew ?_ | refine blk_alloc ?_ _)); refine blk_put (cs := #[.string (⟨#[]⟩ : ByteArray), .string (⟨#[]⟩ : ByteArray), .int .i64 0, .int .i64 0]) ?_ 1 _ rfl; (with_reducible repeat (first | refine blk_drewN ?_ _ | refine blk_drew ?_ | refine blk_alloc ?_ _)); refine blk_put (cs := #[.string (⟨#[]⟩ : ByteArray), .string (⟨#[]⟩ : ByteArray), .int .i64 0, .int .i64 0]) ?_ 0 _ rfl; (with_reducible repeat (first | refine blk_drewN ?_ _ | refine blk_drew ?_ | refine blk_alloc ?_ _)); refine blk_far ?_ NB413_414.out _; (with_reducible repeat (first | refine blk_drewN ?_ _ | refine blk_drew ?_ | refine blk_alloc ?_ _)); refine blk_far ?_ NB413_414.out _; (with_reducible repeat (first | refine blk_drewN ?_ _ | refine blk_drew ?_ | refine blk_alloc ?_ _)); refine blk_far ?_ NB413_414.out _; (with_reducible repeat (first | refine blk_drewN ?_ _ | refine blk_drew ?_ | refine blk_alloc ?_ _)); refine blk_far ?_ NB413_414.out _; (with_reducible repeat (first | refine blk_drewN ?_ _ | refine blk_drew ?_ | refine blk_alloc ?_ _)); exact BK413.out) Tryz.underlying35 rfl (by kernel_rfl)) rfl ?_
  exact ⟨chE, chG⟩
 ·rw [if_neg c2] at H
  have c2b0 : decide (60 < (a0.size : Int)) = false := decide_eq_false c2
  have c2b1 : decide (60 < a0.size) = false := decide_eq_false (by omega)
  clear c2
  replace H := Option.bind_eq_some_iff.mp H
  obtain ⟨t415, A80, H⟩ := H
  replace H : (if (t415.length : Int) = 4 then (if 2 < (t415.length : Int) then ((spec_ParseMilli.f k (rdOf ByteArray.empty t415 2)).bind fun bt419 => (if 3 < (t415.length : Int) then ((spec_l01Read.f k (rdOf ByteArray.empty t415 3)).bind fun bt422 => (if 0 < (t415.length : Int) then (if 1 < (t415.length : Int) then (if bt419.2 = true then (if bt422.2 = true then ((spec_SampleOk.f k (rdOf ByteArray.empty t415 0) (rdOf ByteArray.empty t415 1) bt419.1 bt422.1).bind fun t427 => (if t427 = true then (some (rdOf ByteArray.empty t415 0, rdOf ByteArray.empty t415 1, bt419.1, bt422.1, true)) else (some ((⟨#[]⟩ : ByteArray), (⟨#[]⟩ : ByteArray), 0, 0, false)))) else (some ((⟨#[]⟩ : ByteArray), (⟨#[]⟩ : ByteArray), 0, 0, false))) else (some ((⟨#[]⟩ : ByteArray), (⟨#[]⟩ : ByteArray), 0, 0, false))) else (none)) else (none))) else (none))) else (none)) else (some ((⟨#[]⟩ : ByteArray), (⟨#[]⟩ : ByteArray), 0, 0, false))) = some (r1, r2, r3, r4, r5) := H
  have A8 := Aside0.mk A80
  clear A80
  by_cases c9 : (t415.length : Int) = 4
  ·rw [if_pos c9] at H
   have c9b0 : ((t415.length : Int) == 4) = true := beq_iff_eq.mpr c9
   have c9b1 : ((t415.length : Int) != 4) = false := bne_eq_false_iff_eq.mpr c9
   clear c9
   by_cases c10 : 2 < (t415.length : Int)
   ·rw [if_pos c10] at H
    have c10b0 : decide (2 < (t415.length : Int)) = true := decide_eq_true c10
    have c10b1 : decide (2 < t415.length) = true := decide_eq_true (by omega)
    clear c10
    replace H := Option.bind_eq_some_iff.mp H
    obtain ⟨⟨t419, t420⟩, A110, H⟩ := H
    replace H : (if 3 < (t415.length : Int) then ((spec_l01Read.f k (rdOf ByteArray.empty t415 3)).bind fun bt422 => (if 0 < (t415.length : Int) then (if 1 < (t415.length : Int) then (if t420 = true then (if bt422.2 = true then ((spec_SampleOk.f k (rdOf ByteArray.empty t415 0) (rdOf ByteArray.empty t415 1) t419 bt422.1).bind fun t427 => (if t427 = true then (some (rdOf ByteArray.empty t415 0, rdOf ByteArray.empty t415 1, t419, bt422.1, true)) else (some ((⟨#[]⟩ : ByteArray), (⟨#[]⟩ : ByteArray), 0, 0, false)))) else (some ((⟨#[]⟩ : ByteArray), (⟨#[]⟩ : ByteArray), 0, 0, false))) else (some ((⟨#[]⟩ : ByteArray), (⟨#[]⟩ : ByteArray), 0, 0, false))) else (none)) else (none))) else (none)) = some (r1, r2, r3, r4, r5) := H
    have A11 := Aside0.mk A110
    clear A110
    by_cases c12 : 3 < (t415.length : Int)
    ·rw [if_pos c12] at H
     have c12b0 : decide (3 < (t415.length : Int)) = true := decide_eq_true c12
     have c12b1 : decide (3 < t415.length) = true := decide_eq_true (by omega)
     clear c12
     replace H := Option.bind_eq_some_iff.mp H
     obtain ⟨⟨t422, t423⟩, A130, H⟩ := H
     replace H : (if 0 < (t415.length : Int) then (if 1 < (t415.length : Int) then (if t420 = true then (if t423 = true then ((spec_SampleOk.f k (rdOf ByteArray.empty t415 0) (rdOf ByteArray.empty t415 1) t419 t422).bind fun t427 => (if t427 = true then (some (rdOf ByteArray.empty t415 0, rdOf ByteArray.empty t415 1, t419, t422, true)) else (some ((⟨#[]⟩ : ByteArray), (⟨#[]⟩ : ByteArray), 0, 0, false)))) else (some ((⟨#[]⟩ : ByteArray), (⟨#[]⟩ : ByteArray), 0, 0, false))) else (some ((⟨#[]⟩ : ByteArray), (⟨#[]⟩ : ByteArray), 0, 0, false))) else (none)) else (none)) = some (r1, r2, r3, r4, r5) := H
     have A13 := Aside0.mk A130
     clear A130
     by_cases c14 : 0 < (t415.length : Int)
     ·rw [if_pos c14] at H
      have c14b0 : decide (0 < (t415.length : Int)) = true := decide_eq_true c14
      have c14b1 : decide (0 < t415.length) = true := decide_eq_true (by omega)
      clear c14
      by_cases c15 : 1 < (t415.length : Int)
      ·rw [if_pos c15] at H
       have c15b0 : decide (1 < (t415.length : Int)) = true := decide_eq_true c15
       have c15b1 : decide (1 < t415.length) = true := decide_eq_true (by omega)
       clear c15
       go_enter Tryz.func32, Tryz.ntmps32
       try go_wp2_with (first | ((with_reducible refine gate_dst (N := 2) rfl ?_); refine box_event ?hg (N := 2) ?hd (cs := #[.string (⟨#[]⟩ : ByteArray), .string (⟨#[]⟩ : ByteArray), .int .i64 0, .int .i64 0]) (t := 35) ?hr ?_; (case hd => rfl); (case hg => rfl); (case hr => first | (go_simp; done) | (go_simp; rfl)); intro gb413 hg w20 hbox hb; have n0_ := Aside0.mk (below_step chB hb); have n1_ := Aside0.mk (hbox); have n2_ := Aside0.mk ((by rw [hg]; exact (below_size chB) : w.heap.size ≤ gb413)); have n3_ := Aside0.mk ((by rw [hg]; exact (below_size chB) : w.heap.size ≤ gb413)); clear HB; have HB := n0_; have BK413 := n1_; have GW413 := n2_; have GE413 := n3_; clear n0_ n1_ n2_ n3_; clear hb hbox hg) | ((with_reducible refine gate_dst (N := 4) rfl ?_); refine box_event ?hg (N := 4) ?hd (cs := #[.string (⟨#[]⟩ : ByteArray), .string (⟨#[]⟩ : ByteArray), .int .i64 0, .int .i64 0]) (t := 35) ?hr ?_; (case hd => rfl); (case hg => rfl); (case hr => first | (go_simp; done) | (go_simp; rfl)); intro gb414 hg w21 hbox hb; have n0_ := Aside0.mk (blk_below (g := gb413) (o := .cells #[.string (⟨#[]⟩ : ByteArray), .string (⟨#[]⟩ : ByteArray), .int .i64 0, .int .i64 0] 35 (0, 0)) (blx BK413.out) hb); have n1_ := Aside0.mk (below_step chG hb); have n2_ := Aside0.mk (hbox); have n3_ := Aside0.mk ((by rw [hg]; exact (below_size chG) : w.heap.size ≤ gb414)); have n4_ := Aside0.mk ((by rw [hg]; exact (below_size chG) : w.heap.size ≤ gb414)); have n5_ := Aside0.mk ((by rw [hg]; exact Nat.ne_of_lt (blk_lt (g := gb413) (o := .cells #[.string (⟨#[]⟩ : ByteArray), .string (⟨#[]⟩ : ByteArray), .int .i64 0, .int .i64 0] 35 (0, 0)) (blx BK413.out)) : gb413 ≠ gb414)); have n6_ := Aside0.mk ((by rw [hg]; exact Nat.ne_of_gt (blk_lt (g := gb413) (o := .cells #[.string (⟨#[]⟩ : ByteArray), .string (⟨#[]⟩ : ByteArray), .int .i64 0, .int .i64 0] 35 (0, 0)) (blx BK413.out)) : gb414 ≠ gb413)); clear BK413; clear HB; have BK413 := n0_; have HB := n1_; have BK414 := n2_; have GW414 := n3_; have GE414 := n4_; have NB413_414 := n5_; have NB414_413 := n6_; clear n0_ n1_ n2_ n3_ n4_ n5_ n6_; clear hb hbox hg; have hnb22 := NB414_413.out; have hnc22 := NB413_414.out; obtain ⟨hcz23_0, hcz23_1, hcz23_2, hcz23_3, hfz23_0, hfz23_1, hfz23_2, hfz23_3⟩ := blk4 BK414.out) | ((with_reducible refine gate_callee (f := 59) rfl ?_); refine goesL_ (some 17) rfl rfl Tryz.func59 (by kernel_rfl) rfl #[.string a0, .int .u8 32] rfl chM ?_; (with_reducible refine (spec_l01Parts.calls k a0 32 t415 _ A8.out).mono ?_); rintro e w24 ⟨v416, rfl, ho0, hb⟩; refine ⟨_, rfl, ?_⟩; have n0_ := Aside0.mk (Kd.R_lower ho0 (below_size chG)); have n1_ := Aside0.mk (blk_below (g := gb413) (o := .cells #[.string (⟨#[]⟩ : ByteArray), .string (⟨#[]⟩ : ByteArray), .int .i64 0, .int .i64 0] 35 (0, 0)) (blx BK413.out) hb); have n2_ := Aside0.mk (blk_below (g := gb414) (o := .cells #[.string (⟨#[]⟩ : ByteArray), .string (⟨#[]⟩ : ByteArray), .int .i64 0, .int .i64 0] 35 (0, 0)) (by (with_reducible repeat (first | refine blk_drewN ?_ _ | refine blk_drew ?_ | refine blk_alloc ?_ _)); refine blk_put (cs := #[.string (⟨#[]⟩ : ByteArray), .string (⟨#[]⟩ : ByteArray), .int .i64 0, .int .i64 0]) ?_ 3 _ rfl; (with_reducible repeat (first | refine blk_drewN ?_ _ | refine blk_drew ?_ | refine blk_alloc ?_ _)); refine blk_put (cs := #[.string (⟨#[]⟩ : ByteArray), .string (⟨#[]⟩ : ByteArray), .int .i64 0, .int .i64 0]) ?_ 2 _ rfl; (with_reducible repeat (first | refine blk_drewN ?_ _ | refine blk_drew ?_ | refine blk_alloc ?_ _)); refine blk_put (cs := #[.string (⟨#[]⟩ : ByteArray), .string (⟨#[]⟩ : ByteArray), .int .i64 0, .int .i64 0]) ?_ 1 _ rfl; (with_reducible repeat (first | refine blk_drewN ?_ _ | refine blk_drew ?_ | refine blk_alloc ?_ _)); refine blk_put (cs := #[.string (⟨#[]⟩ : ByteArray), .string (⟨#[]⟩ : ByteArray), .int .i64 0, .int .i64 0]) ?_ 0 _ rfl; (with_reducible repeat (first | refine blk_drewN ?_ _ | refine blk_drew ?_ | refine blk_alloc ?_ _)); exact BK414.out) hb); have n3_ := Aside0.mk (below_step chG hb); clear BK413; clear BK414; clear HB; have HO417 := n0_; have BK413 := n1_; have BK414 := n2_; have HB := n3_; clear n0_ n1_ n2_ n3_; (try clear hb); (try clear hb2); (try clear hk); (try clear hi); (try clear ho0); obtain ⟨Ao25, co25, eo25⟩ := Kd.R_slice HO417.out; subst eo25; have p418 : 0 ≤ (2 : Int) := (by omega); have q418 : 2 < (t415.length : Int) := of_decide_eq_true chA; obtain ⟨ad418, e418, hx418_0⟩ := Kd.at_string (Kd.R_reads' HO417.out).2.2 2 p418 q418; cases e418; (try simp only [show (2 : Int).toNat = 2 from rfl, Nat.reduceMul, Nat.reduceEqDiff, Go.Addr.add, ↓reduceIte] at hx418_0); have qi418 : (2 < t415.length) = True := eq_true (by omega); (try rw [show ((2 : Int)).toNat = 2 from rfl] at hx418_0); replace p418 := eq_true p418; replace q418 := eq_true q418) | ((with_reducible refine gate_callee (f := 60) rfl ?_); refine goesL_ (some 26) rfl rfl Tryz.func60 (by kernel_rfl) rfl #[.string (rdOf ByteArray.empty t415 2)] rfl chM ?_; (with_reducible refine (spec_ParseMilli.calls k (rdOf ByteArray.empty t415 2) t419 t420 _ A11.out).mono ?_); rintro e w26 ⟨rfl, hb⟩; refine ⟨_, rfl, ?_⟩; have n0_ := Aside0.mk (Kd.R_below (chR HO417.out) hb); have n1_ := Aside0.mk (blk_below (g := gb413) (o := .cells #[.string (⟨#[]⟩ : ByteArray), .string (⟨#[]⟩ : ByteArray), .int .i64 0, .int .i64 0] 35 (0, 0)) (blx BK413.out) hb); have n2_ := Aside0.mk (blk_below (g := gb414) (o := .cells #[.string (⟨#[]⟩ : ByteArray), .string (⟨#[]⟩ : ByteArray), .int .i64 0, .int .i64 0] 35 (0, 0)) (blx BK414.out) hb); have n3_ := Aside0.mk (below_step chG hb); clear HO417; clear BK413; clear BK414; clear HB; have HO417 := n0_; have BK413 := n1_; have BK414 := n2_; have HB := n3_; clear n0_ n1_ n2_ n3_; (try clear hb); (try clear hb2); (try clear hk); (try clear hi); have p421 : 0 ≤ (3 : Int) := (by omega); have q421 : 3 < (t415.length : Int) := of_decide_eq_true chA; obtain ⟨ad421, e421, hx421_0⟩ := Kd.at_string (Kd.R_reads' HO417.out).2.2 3 p421 q421; obtain rfl : ad418 = ad421 := (by injection e421); (try simp only [show (3 : Int).toNat = 3 from rfl, Nat.reduceMul, Nat.reduceEqDiff, Go.Addr.add, ↓reduceIte] at hx421_0); have qi421 : (3 < t415.length) = True := eq_true (by omega); (try rw [show ((3 : Int)).toNat = 3 from rfl] at hx421_0); replace p421 := eq_true p421; replace q421 := eq_true q421) | ((with_reducible refine gate_callee (f := 61) rfl ?_); refine goesL_ (some 33) rfl rfl Tryz.func61 (by kernel_rfl) rfl #[.string (rdOf ByteArray.empty t415 3)] rfl chM ?_; (with_reducible refine (spec_l01Read.calls k (rdOf ByteArray.empty t415 3) t422 t423 _ A13.out).mono ?_); rintro e w27 ⟨rfl, hb⟩; refine ⟨_, rfl, ?_⟩; have n0_ := Aside0.mk (Kd.R_below (chR HO417.out) hb); have n1_ := Aside0.mk (blk_below (g := gb413) (o := .cells #[.string (⟨#[]⟩ : ByteArray), .string (⟨#[]⟩ : ByteArray), .int .i64 0, .int .i64 0] 35 (0, 0)) (blx BK413.out) hb); have n2_ := Aside0.mk (blk_below (g := gb414) (o := .cells #[.string (⟨#[]⟩ : ByteArray), .string (⟨#[]⟩ : ByteArray), .int .i64 0, .int .i64 0] 35 (0, 0)) (blx BK414.out) hb); have n3_ := Aside0.mk (below_step chG hb); clear HO417; clear BK413; clear BK414; clear HB; have HO417 := n0_; have BK413 := n1_; have BK414 := n2_; have HB := n3_; clear n0_ n1_ n2_ n3_; (try clear hb); (try clear hb2); (try clear hk); (try clear hi)))
       have n0_ := Aside0.mk (Kd.R_drew HO417.out)
       have n1_ := Aside0.mk (blk_drew BK413.out)
       have n2_ := Aside0.mk (blk_drew BK414.out)
       have n3_ := Aside0.mk (below_drew1 HB.out)
       clear HO417
       clear BK413
       clear BK414
       clear HB
       have HO417 := n0_
       have BK413 := n1_
       have BK414 := n2_
       have HB := n3_
       clear n0_ n1_ n2_ n3_
       have p424 : 0 ≤ (0 : Int) := (by omega)
       have q424 : 0 < (t415.length : Int) := of_decide_eq_true chA
       obtain ⟨ad424, e424, hx424_0⟩ := Kd.at_string (Kd.R_reads' HO417.out).2.2 0 p424 q424
       obtain rfl : ad418 = ad424 := (by injection e424)
       have qi424 : (0 < t415.length) = True := eq_true (by omega)
       (try rw [show ((0 : Int)).toNat = 0 from rfl] at hx424_0)
       (try rw [Addr.add_zero'] at hx424_0)
       replace p424 := eq_true p424
       replace q424 := eq_true q424
       have p425 : 0 ≤ (1 : Int) := (by omega)
       have q425 : 1 < (t415.length : Int) := of_decide_eq_true chA
       obtain ⟨ad425, e425, hx425_0⟩ := Kd.at_string (Kd.R_reads' HO417.out).2.2 1 p425 q425
       obtain rfl : ad418 = ad425 := (by injection e425)
       (try simp only [show (1 : Int).toNat = 1 from rfl, Nat.reduceMul, Nat.reduceEqDiff, Go.Addr.add, ↓reduceIte] at hx425_0)
       have qi425 : (1 < t415.length) = True := eq_true (by omega)
       (try rw [show ((1 : Int)).toNat = 1 from rfl] at hx425_0)
       replace p425 := eq_true p425
       replace q425 := eq_true q425
       refine start_ (n := 11) (S := fun w' => w'.cell? ad418 = some (.string (rdOf ByteArray.empty t415 0)) ∧ w'.cell? ⟨ad418.block, ad418.off + 1, none⟩ = some (.string (rdOf ByteArray.empty t415 1))) (ds := []) #[false, false, false, false, false, false, false, false, false, false, false] (by kernel_rfl) rfl rfl ⟨hx424_0, hx425_0⟩ (fun hHeld => ?_); refine with_tabW spec_ParseSample.tab9 spec_ParseSample.bits9 (fun HT_ HW_ => ?_)
       generalize w27.drew = w28 at HO417 BK413 BK414 HB hx424_0 hx425_0 hHeld ⊢
       refine pure_ (i := 0) (N := some 36) (v := ?_) (a' := ?_) #[true, false, false, false, false, false, false, false, false, false, false] rfl rfl (any_of HT_.out (by kernel_rfl)) (fun _ _ _ h => h) (Or.inl ⟨by rfl, ?_⟩) ?_ ?_
       rotate_left
       ·intro w'
        go_simp
        with_reducible rfl
       rotate_left
       ·simp only [Act.put, List.setIfInBounds_toArray, List.set_cons_zero, List.set_cons_succ, i64_w, i32_w]
        rfl
       refine pure_ (i := 1) (N := some 37) (v := ?_) (a' := ?_) #[true, true, false, false, false, false, false, false, false, false, false] rfl rfl (any_of HT_.out (by kernel_rfl)) (fun _ _ _ h => h) (Or.inl ⟨by rfl, ?_⟩) ?_ ?_
       rotate_left
       ·intro w'
        go_simp
        with_reducible rfl
       rotate_left
       ·simp only [Act.put, List.setIfInBounds_toArray, List.set_cons_zero, List.set_cons_succ, i64_w, i32_w]
        rfl
       refine pure_ (i := 3) (N := some 39) (v := ?_) (a' := ?_) #[true, true, false, true, false, false, false, false, false, false, false] rfl rfl (any_of HT_.out (by kernel_rfl)) (fun _ _ _ h => h) (Or.inl ⟨by rfl, ?_⟩) ?_ ?_
       rotate_left
       ·intro w'
        go_simp
        with_reducible rfl
       rotate_left
       ·simp only [Act.put, List.setIfInBounds_toArray, List.set_cons_zero, List.set_cons_succ, i64_w, i32_w]
        rfl
       refine pure_ (i := 4) (N := some 40) (v := ?_) (a' := ?_) #[true, true, false, true, true, false, false, false, false, false, false] rfl rfl (any_of HT_.out (by kernel_rfl)) (fun _ _ _ h => h) (Or.inl ⟨by rfl, ?_⟩) ?_ ?_
       rotate_left
       ·intro w'
        go_simp
        with_reducible rfl
       rotate_left
       ·simp only [Act.put, List.setIfInBounds_toArray, List.set_cons_zero, List.set_cons_succ, i64_w, i32_w]
        rfl
       refine pure_ (i := 6) (N := some 42) (v := ?_) (a' := ?_) #[true, true, false, true, true, false, true, false, false, false, false] rfl rfl (any_of HT_.out (by kernel_rfl)) (fun _ _ _ h => h) (Or.inl ⟨by rfl, ?_⟩) ?_ ?_
       rotate_left
       ·intro w'
        go_simp
        with_reducible rfl
       rotate_left
       ·simp only [Act.put, List.setIfInBounds_toArray, List.set_cons_zero, List.set_cons_succ, i64_w, i32_w]
        rfl
       refine pure_ (i := 7) (N := some 43) (v := ?_) (a' := ?_) #[true, true, false, true, true, false, true, true, false, false, false] rfl rfl (any_of HT_.out (by kernel_rfl)) (fun _ _ _ h => h) (Or.inl ⟨by rfl, ?_⟩) ?_ ?_
       rotate_left
       ·intro w'
        go_simp
        with_reducible rfl
       rotate_left
       ·simp only [Act.put, List.setIfInBounds_toArray, List.set_cons_zero, List.set_cons_succ, i64_w, i32_w]
        rfl
       refine take_ (i := 2) (N := some 38) (v := ?_) (a' := ?_) #[true, true, true, true, true, false, true, true, false, false, false] rfl rfl (take_ofW HT_.out HW_.out (by kernel_rfl)) (fun _ _ _ h => h) (Or.inl ⟨by rfl, ?_⟩) hHeld ?_ ?_
       rotate_left
       ·rintro w' ⟨s0, s1⟩
        go_simp
        with_reducible rfl
       rotate_left
       ·simp only [Act.put, List.setIfInBounds_toArray, List.set_cons_zero, List.set_cons_succ, i64_w, i32_w]
        rfl
       refine take_ (i := 5) (N := some 41) (v := ?_) (a' := ?_) #[true, true, true, true, true, true, true, true, false, false, false] rfl rfl (take_ofW HT_.out HW_.out (by kernel_rfl)) (fun _ _ _ h => h) (Or.inl ⟨by rfl, ?_⟩) hHeld ?_ ?_
       rotate_left
       ·rintro w' ⟨s0, s1⟩
        go_simp
        with_reducible rfl
       rotate_left
       ·simp only [Act.put, List.setIfInBounds_toArray, List.set_cons_zero, List.set_cons_succ, i64_w, i32_w]
        rfl
       refine pure_ (i := 8) (N := some 44) (v := ?_) (a' := ?_) #[true, true, true, true, true, true, true, true, true, false, false] rfl rfl (any_of HT_.out (by kernel_rfl)) (fun _ _ _ h => h) (Or.inl ⟨by rfl, ?_⟩) ?_ ?_
       rotate_left
       ·intro w'
        go_simp
        with_reducible rfl
       rotate_left
       ·simp only [Act.put, List.setIfInBounds_toArray, List.set_cons_zero, List.set_cons_succ, i64_w, i32_w]
        rfl
       refine one_ (i := 9) (N := some 10) #[true, true, true, true, true, true, true, true, true, true, false] rfl rfl (one_of HT_.out (by kernel_rfl)) (by decide) (fun K hK => ?_)
       refine box_step ?hg (N := 10) ?hd (cs := #[.string (⟨#[]⟩ : ByteArray), .string (⟨#[]⟩ : ByteArray), .int .i64 0, .int .i64 0]) (t := 35) ?hr ?_; (case hd => rfl); (case hg => rfl); (case hr => first | (go_simp; done) | (go_simp; rfl))
       intro gb426 hg w29 hbox hb
       have HS0_ := (hb.cell (World.block_lt_of_cell? _ _ (hHeld.1))).trans (hHeld.1)
       have HS1_ := (hb.cell (World.block_lt_of_cell? _ _ (hHeld.2))).trans (hHeld.2)
       have n0_ := Aside0.mk (Kd.R_below (chR HO417.out) hb)
       have n1_ := Aside0.mk (blk_below (g := gb413) (o := .cells #[.string (⟨#[]⟩ : ByteArray), .string (⟨#[]⟩ : ByteArray), .int .i64 0, .int .i64 0] 35 (0, 0)) (blx BK413.out) hb)
       have n2_ := Aside0.mk (blk_below (g := gb414) (o := .cells #[.string (⟨#[]⟩ : ByteArray), .string (⟨#[]⟩ : ByteArray), .int .i64 0, .int .i64 0] 35 (0, 0)) (blx BK414.out) hb)
       have n3_ := Aside0.mk (below_step chG hb)
       have n4_ := Aside0.mk (hbox)
       have n5_ := Aside0.mk ((by rw [hg]; exact (below_size chG) : w.heap.size ≤ gb426))
       have n6_ := Aside0.mk ((by rw [hg]; exact (below_size chG) : w.heap.size ≤ gb426))
       have n7_ := Aside0.mk ((by rw [hg]; exact Nat.ne_of_lt (blk_lt (g := gb413) (o := .cells #[.string (⟨#[]⟩ : ByteArray), .string (⟨#[]⟩ : ByteArray), .int .i64 0, .int .i64 0] 35 (0, 0)) (blx BK413.out)) : gb413 ≠ gb426))
       have n8_ := Aside0.mk ((by rw [hg]; exact Nat.ne_of_gt (blk_lt (g := gb413) (o := .cells #[.string (⟨#[]⟩ : ByteArray), .string (⟨#[]⟩ : ByteArray), .int .i64 0, .int .i64 0] 35 (0, 0)) (blx BK413.out)) : gb426 ≠ gb413))
       have n9_ := Aside0.mk ((by rw [hg]; exact Nat.ne_of_lt (blk_lt (g := gb414) (o := .cells #[.string (⟨#[]⟩ : ByteArray), .string (⟨#[]⟩ : ByteArray), .int .i64 0, .int .i64 0] 35 (0, 0)) (blx BK414.out)) : gb414 ≠ gb426))
       have n10_ := Aside0.mk ((by rw [hg]; exact Nat.ne_of_gt (blk_lt (g := gb414) (o := .cells #[.string (⟨#[]⟩ : ByteArray), .string (⟨#[]⟩ : ByteArray), .int .i64 0, .int .i64 0] 35 (0, 0)) (blx BK414.out)) : gb426 ≠ gb414))
       clear HO417
       clear BK413
       clear BK414
       clear HB
       have HO417 := n0_
       have BK413 := n1_
       have BK414 := n2_
       have HB := n3_
       have BK426 := n4_
       have GW426 := n5_
       have GE426 := n6_
       have NB413_426 := n7_
       have NB426_413 := n8_
       have NB414_426 := n9_
       have NB426_414 := n10_
       clear n0_ n1_ n2_ n3_ n4_ n5_ n6_ n7_ n8_ n9_ n10_
       clear hb hbox hg
       refine hK.out _ _ ⟨HS0_, HS1_⟩ (fun hHeld => ?_)
       clear hK K
       refine norm_ (a' := ?_) ?_ ?_
       rotate_left
       ·show Act.put _ (some 10) _ = _
        simp only [Act.put, List.setIfInBounds_toArray, List.set_cons_zero, List.set_cons_succ, i64_w, i32_w]
        rfl
       refine one_ (i := 10) (N := none) #[true, true, true, true, true, true, true, true, true, true, true] rfl rfl (one_of HT_.out (by kernel_rfl)) (by decide) (fun K hK => ?_)
       by_cases c16 : t420 = true
       ·subst c16
        have H1 : (if t423 = true then ((spec_SampleOk.f k (rdOf ByteArray.empty t415 0) (rdOf ByteArray.empty t415 1) t419 t422).bind fun t427 => (if t427 = true then (some (rdOf ByteArray.empty t415 0, rdOf ByteArray.empty t415 1, t419, t422, true)) else (some ((⟨#[]⟩ : ByteArray), (⟨#[]⟩ : ByteArray), 0, 0, false)))) else (some ((⟨#[]⟩ : ByteArray), (⟨#[]⟩ : ByteArray), 0, 0, false))) = some (r1, r2, r3, r4, r5) := by rw [if_pos rfl] at H; exact H
        clear H
        have H := H1
        clear H1
        by_cases c17 : t423 = true
        ·subst c17
         have H1 : ((spec_SampleOk.f k (rdOf ByteArray.empty t415 0) (rdOf ByteArray.empty t415 1) t419 t422).bind fun t427 => (if t427 = true then (some (rdOf ByteArray.empty t415 0, rdOf ByteArray.empty t415 1, t419, t422, true)) else (some ((⟨#[]⟩ : ByteArray), (⟨#[]⟩ : ByteArray), 0, 0, false)))) = some (r1, r2, r3, r4, r5) := by rw [if_pos rfl] at H; exact H
         clear H
         have H := H1
         clear H1
         replace H := Option.bind_eq_some_iff.mp H
         obtain ⟨t427, A180, H⟩ := H
         replace H : (if t427 = true then (some (rdOf ByteArray.empty t415 0, rdOf ByteArray.empty t415 1, t419, t422, true)) else (some ((⟨#[]⟩ : ByteArray), (⟨#[]⟩ : ByteArray), 0, 0, false))) = some (r1, r2, r3, r4, r5) := H
         have A18 := Aside0.mk A180
         clear A180
         by_cases c19 : t427 = true
         ·subst c19
          have H1 : (some (rdOf ByteArray.empty t415 0, rdOf ByteArray.empty t415 1, t419, t422, true)) = some (r1, r2, r3, r4, r5) := by rw [if_pos rfl] at H; exact H
          clear H
          have H := H1
          clear H1
          simp only [Option.some.injEq, Prod.mk.injEq] at H
          obtain ⟨rfl, rfl, rfl, rfl, rfl⟩ := H
          have hs30 : w29.cell? ⟨gb426, 0, none⟩ = some (.string (⟨#[]⟩ : ByteArray)) := (blk_cell BK426.out 0).trans rfl
          have hfs30 := blk_frozen BK426.out 0
          have hns30_0 := NB413_426.out
          have hns30_1 := NB414_426.out
          have hms30_0 := NB426_413.out
          have hms30_1 := NB426_414.out
          have hs31 : w29.cell? ⟨gb426, 1, none⟩ = some (.string (⟨#[]⟩ : ByteArray)) := (blk_cell BK426.out 1).trans rfl
          have hfs31 := blk_frozen BK426.out 1
          have hns31_0 := NB413_426.out
          have hns31_1 := NB414_426.out
          have hms31_0 := NB426_413.out
          have hms31_1 := NB426_414.out
          have hs32 : w29.cell? ⟨gb426, 2, none⟩ = some (.int .i64 0) := (blk_cell BK426.out 2).trans rfl
          have hfs32 := blk_frozen BK426.out 2
          have hns32_0 := NB413_426.out
          have hns32_1 := NB414_426.out
          have hms32_0 := NB426_413.out
          have hms32_1 := NB426_414.out
          have hs33 : w29.cell? ⟨gb426, 3, none⟩ = some (.int .i64 0) := (blk_cell BK426.out 3).trans rfl
          have hfs33 := blk_frozen BK426.out 3
          have hns33_0 := NB413_426.out
          have hns33_1 := NB414_426.out
          have hms33_0 := NB426_413.out
          have hms33_1 := NB426_414.out
          refine skip_ (w1 := ?_) (by rfl) rfl ?_ ?_
          rotate_left
          ·go_simp
           rfl
          refine hK.out _ _ ⟨((cell_far (p := ⟨gb426, _, none⟩) (by first | exact Kd.own_blk (Kd.R_ne HO417.out BK426.out (by decide)) | (rw [add_block]; exact Kd.own_blk (Kd.R_ne HO417.out BK426.out (by decide))) | (show (Addr.add _ _).block ≠ _; rw [add_block]; exact Kd.own_blk (Kd.R_ne HO417.out BK426.out (by decide))) | (dsimp only; exact Kd.own_blk (Kd.R_ne HO417.out BK426.out (by decide)))) _).trans (((cell_far (p := ⟨gb426, _, none⟩) (by first | exact Kd.own_blk (Kd.R_ne HO417.out BK426.out (by decide)) | (rw [add_block]; exact Kd.own_blk (Kd.R_ne HO417.out BK426.out (by decide))) | (show (Addr.add _ _).block ≠ _; rw [add_block]; exact Kd.own_blk (Kd.R_ne HO417.out BK426.out (by decide))) | (dsimp only; exact Kd.own_blk (Kd.R_ne HO417.out BK426.out (by decide)))) _).trans (((cell_far (p := ⟨gb426, _, none⟩) (by first | exact Kd.own_blk (Kd.R_ne HO417.out BK426.out (by decide)) | (rw [add_block]; exact Kd.own_blk (Kd.R_ne HO417.out BK426.out (by decide))) | (show (Addr.add _ _).block ≠ _; rw [add_block]; exact Kd.own_blk (Kd.R_ne HO417.out BK426.out (by decide))) | (dsimp only; exact Kd.own_blk (Kd.R_ne HO417.out BK426.out (by decide)))) _).trans (((cell_far (p := ⟨gb426, _, none⟩) (by first | exact Kd.own_blk (Kd.R_ne HO417.out BK426.out (by decide)) | (rw [add_block]; exact Kd.own_blk (Kd.R_ne HO417.out BK426.out (by decide))) | (show (Addr.add _ _).block ≠ _; rw [add_block]; exact Kd.own_blk (Kd.R_ne HO417.out BK426.out (by decide))) | (dsimp only; exact Kd.own_blk (Kd.R_ne HO417.out BK426.out (by decide)))) _).trans (hHeld.1)))))))), ((cell_far (p := ⟨gb426, _, none⟩) (by first | exact Kd.own_blk (Kd.R_ne HO417.out BK426.out (by decide)) | (rw [add_block]; exact Kd.own_blk (Kd.R_ne HO417.out BK426.out (by decide))) | (show (Addr.add _ _).block ≠ _; rw [add_block]; exact Kd.own_blk (Kd.R_ne HO417.out BK426.out (by decide))) | (dsimp only; exact Kd.own_blk (Kd.R_ne HO417.out BK426.out (by decide)))) _).trans (((cell_far (p := ⟨gb426, _, none⟩) (by first | exact Kd.own_blk (Kd.R_ne HO417.out BK426.out (by decide)) | (rw [add_block]; exact Kd.own_blk (Kd.R_ne HO417.out BK426.out (by decide))) | (show (Addr.add _ _).block ≠ _; rw [add_block]; exact Kd.own_blk (Kd.R_ne HO417.out BK426.out (by decide))) | (dsimp only; exact Kd.own_blk (Kd.R_ne HO417.out BK426.out (by decide)))) _).trans (((cell_far (p := ⟨gb426, _, none⟩) (by first | exact Kd.own_blk (Kd.R_ne HO417.out BK426.out (by decide)) | (rw [add_block]; exact Kd.own_blk (Kd.R_ne HO417.out BK426.out (by decide))) | (show (Addr.add _ _).block ≠ _; rw [add_block]; exact Kd.own_blk (Kd.R_ne HO417.out BK426.out (by decide))) | (dsimp only; exact Kd.own_blk (Kd.R_ne HO417.out BK426.out (by decide)))) _).trans (((cell_far (p := ⟨gb426, _, none⟩) (by first | exact Kd.own_blk (Kd.R_ne HO417.out BK426.out (by decide)) | (rw [add_block]; exact Kd.own_blk (Kd.R_ne HO417.out BK426.out (by decide))) | (show (Addr.add _ _).block ≠ _; rw [add_block]; exact Kd.own_blk (Kd.R_ne HO417.out BK426.out (by decide))) | (dsimp only; exact Kd.own_blk (Kd.R_ne HO417.out BK426.out (by decide)))) _).trans (hHeld.2))))))))⟩ (fun hHeld => ?_)
          clear hK K
          refine done_ (done_of HT_.out (by kernel_rfl)) ?_
          have hnb34 := NB426_413.out
          have hnc34 := NB413_426.out
          have hnb35 := NB426_414.out
          have hnc35 := NB414_426.out
          obtain ⟨hcz36_0, hcz36_1, hcz36_2, hcz36_3, hfz36_0, hfz36_1, hfz36_2, hfz36_3⟩ := blk4 BK426.out
          try go_wp2_with (first | (go_at_call 18; (with_reducible refine (spec_SampleOk.calls k (rdOf ByteArray.empty t415 0) (rdOf ByteArray.empty t415 1) t419 t422 true _ A18.out).mono ?_); rintro e w37 ⟨rfl, hb⟩; have n0_ := Aside0.mk (Kd.R_below (by (with_reducible repeat (first | apply Kd.R_alloc | apply Kd.R_drewN | apply Kd.R_drew)); exact (Kd.R_mono (Kd.R_far (p := ⟨gb426, 3, none⟩) (Kd.R_far (p := ⟨gb426, 2, none⟩) (Kd.R_far (p := ⟨gb426, 1, none⟩) (Kd.R_far (p := ⟨gb426, 0, none⟩) (Kd.R_types HO417.out BK426.out (by decide)) (fun _ hk => hk.2) (.string (rdOf ByteArray.empty t415 0))) (fun _ hk => hk.2) (.string (rdOf ByteArray.empty t415 1))) (fun _ hk => hk.2) (.int .i64 t419)) (fun _ hk => hk.2) (.int .i64 t422)) (fun _ h_ => h_.1))) hb); have n1_ := Aside0.mk (blk_below (g := gb413) (o := .cells #[.string (⟨#[]⟩ : ByteArray), .string (⟨#[]⟩ : ByteArray), .int .i64 0, .int .i64 0] 35 (0, 0)) (blx BK413.out) hb); have n2_ := Aside0.mk (blk_below (g := gb414) (o := .cells #[.string (⟨#[]⟩ : ByteArray), .string (⟨#[]⟩ : ByteArray), .int .i64 0, .int .i64 0] 35 (0, 0)) (blx BK414.out) hb); have n3_ := Aside0.mk (blk_below (g := gb426) (o := .cells #[.string (rdOf ByteArray.empty t415 0), .string (rdOf ByteArray.empty t415 1), .int .i64 t419, .int .i64 t422] 35 (0, 0)) (by (with_reducible repeat (first | refine blk_drewN ?_ _ | refine blk_drew ?_ | refine blk_alloc ?_ _)); refine blk_put (cs := #[.string (rdOf ByteArray.empty t415 0), .string (rdOf ByteArray.empty t415 1), .int .i64 t419, .int .i64 0]) ?_ 3 _ rfl; (with_reducible repeat (first | refine blk_drewN ?_ _ | refine blk_drew ?_ | refine blk_alloc ?_ _)); refine blk_put (cs := #[.string (rdOf ByteArray.empty t415 0), .string (rdOf ByteArray.empty t415 1), .int .i64 0, .int .i64 0]) ?_ 2 _ rfl; (with_reducible repeat (first | refine blk_drewN ?_ _ | refine blk_drew ?_ | refine blk_alloc ?_ _)); refine blk_put (cs := #[.string (rdOf ByteArray.empty t415 0), .string (⟨#[]⟩ : ByteArray), .int .i64 0, .int .i64 0]) ?_ 1 _ rfl; (with_reducible repeat (first | refine blk_drewN ?_ _ | refine blk_drew ?_ | refine blk_alloc ?_ _)); refine blk_put (cs := #[.string (⟨#[]⟩ : ByteArray), .string (⟨#[]⟩ : ByteArray), .int .i64 0, .int .i64 0]) ?_ 0 _ rfl; (with_reducible repeat (first | refine blk_drewN ?_ _ | refine blk_drew ?_ | refine blk_alloc ?_ _)); exact BK426.out) hb); have n4_ := Aside0.mk (below_step chG hb); clear HO417; clear BK413; clear BK414; clear BK426; clear HB; have HO417 := n0_; have BK413 := n1_; have BK414 := n2_; have BK426 := n3_; have HB := n4_; clear n0_ n1_ n2_ n3_ n4_; (try clear hb); (try clear hb2); (try clear hk); (try clear hi); obtain ⟨hcz38_0, hcz38_1, hcz38_2, hcz38_3, hfz38_0, hfz38_1, hfz38_2, hfz38_3⟩ := blk4 BK426.out; obtain ⟨hcz39_0, hcz39_1, hcz39_2, hcz39_3, hfz39_0, hfz39_1, hfz39_2, hfz39_3⟩ := blk4 BK413.out))
          refine bodyPost_ret (results_ct rfl _ _ gb413 35 #[.string (rdOf ByteArray.empty t415 0), .string (rdOf ByteArray.empty t415 1), .int .i64 t419, .int .i64 t422] (0, 0) _ rfl (by (with_reducible repeat (first | refine blk_drewN ?_ _ | refine blk_drew ?_ | refine blk_alloc ?_ _)); refine blk_put (cs := #[.string (rdOf ByteArray.empty t415 0), .string (rdOf ByteArray.empty t415 1), .int .i64 t419, .int .i64 0]) ?_ 3 _ rfl; (with_reducible repeat (first | refine blk_drewN ?_ _ | refine blk_drew ?_ | refine blk_alloc ?_ _)); refine blk_put (cs := #[.string (rdOf ByteArray.empty t415 0), .string (rdOf ByteArray.empty t415 1), .int .i64 0, .int .i64 0]) ?_ 2 _ rfl; (with_reducible repeat (first | refine blk_drewN ?_ _ | refine blk_drew ?_ | refine blk_alloc ?_ _)); refine blk_put (cs := #[.string (rdOf ByteArray.empty t415 0), .string (⟨#[]⟩ : ByteArray), .int .i64 0, .int .i64 0]) ?_ 1 _ rfl; (with_reducible repeat (first | refine blk_drewN ?_ _ | refine blk_drew ?_ | refine blk_alloc ?_ _)); refine blk_put (cs := #[.string (⟨#[]⟩ : ByteArray), .string (⟨#[]⟩ : ByteArray), .int .i64 0, .int .i64 0]) ?_ 0 _ rfl; (with_reducible repeat (first | refine blk_drewN ?_ _ | refine blk_drew ?_ | refine blk_alloc ?_ _)); exact BK413.out) Tryz.underlying35 rfl (by kernel_rfl)) rfl ?_
          exact ⟨chE, chG⟩
         ·replace c19 := Bool.eq_false_iff.mpr c19
          subst c19
          have H1 : (some ((⟨#[]⟩ : ByteArray), (⟨#[]⟩ : ByteArray), 0, 0, false)) = some (r1, r2, r3, r4, r5) := by rw [if_neg (show ¬ (false = true) by decide)] at H; exact H
          clear H
          have H := H1
          clear H1
          simp only [Option.some.injEq, Prod.mk.injEq] at H
          obtain ⟨rfl, rfl, rfl, rfl, rfl⟩ := H
          have hs50 : w29.cell? ⟨gb426, 0, none⟩ = some (.string (⟨#[]⟩ : ByteArray)) := (blk_cell BK426.out 0).trans rfl
          have hfs50 := blk_frozen BK426.out 0
          have hns50_0 := NB413_426.out
          have hns50_1 := NB414_426.out
          have hms50_0 := NB426_413.out
          have hms50_1 := NB426_414.out
          have hs51 : w29.cell? ⟨gb426, 1, none⟩ = some (.string (⟨#[]⟩ : ByteArray)) := (blk_cell BK426.out 1).trans rfl
          have hfs51 := blk_frozen BK426.out 1
          have hns51_0 := NB413_426.out
          have hns51_1 := NB414_426.out
          have hms51_0 := NB426_413.out
          have hms51_1 := NB426_414.out
          have hs52 : w29.cell? ⟨gb426, 2, none⟩ = some (.int .i64 0) := (blk_cell BK426.out 2).trans rfl
          have hfs52 := blk_frozen BK426.out 2
          have hns52_0 := NB413_426.out
          have hns52_1 := NB414_426.out
          have hms52_0 := NB426_413.out
          have hms52_1 := NB426_414.out
          have hs53 : w29.cell? ⟨gb426, 3, none⟩ = some (.int .i64 0) := (blk_cell BK426.out 3).trans rfl
          have hfs53 := blk_frozen BK426.out 3
          have hns53_0 := NB413_426.out
          have hns53_1 := NB414_426.out
          have hms53_0 := NB426_413.out
          have hms53_1 := NB426_414.out
          refine skip_ (w1 := ?_) (by rfl) rfl ?_ ?_
          rotate_left
          ·go_simp
           rfl
          refine hK.out _ _ ⟨((cell_far (p := ⟨gb426, _, none⟩) (by first | exact Kd.own_blk (Kd.R_ne HO417.out BK426.out (by decide)) | (rw [add_block]; exact Kd.own_blk (Kd.R_ne HO417.out BK426.out (by decide))) | (show (Addr.add _ _).block ≠ _; rw [add_block]; exact Kd.own_blk (Kd.R_ne HO417.out BK426.out (by decide))) | (dsimp only; exact Kd.own_blk (Kd.R_ne HO417.out BK426.out (by decide)))) _).trans (((cell_far (p := ⟨gb426, _, none⟩) (by first | exact Kd.own_blk (Kd.R_ne HO417.out BK426.out (by decide)) | (rw [add_block]; exact Kd.own_blk (Kd.R_ne HO417.out BK426.out (by decide))) | (show (Addr.add _ _).block ≠ _; rw [add_block]; exact Kd.own_blk (Kd.R_ne HO417.out BK426.out (by decide))) | (dsimp only; exact Kd.own_blk (Kd.R_ne HO417.out BK426.out (by decide)))) _).trans (((cell_far (p := ⟨gb426, _, none⟩) (by first | exact Kd.own_blk (Kd.R_ne HO417.out BK426.out (by decide)) | (rw [add_block]; exact Kd.own_blk (Kd.R_ne HO417.out BK426.out (by decide))) | (show (Addr.add _ _).block ≠ _; rw [add_block]; exact Kd.own_blk (Kd.R_ne HO417.out BK426.out (by decide))) | (dsimp only; exact Kd.own_blk (Kd.R_ne HO417.out BK426.out (by decide)))) _).trans (((cell_far (p := ⟨gb426, _, none⟩) (by first | exact Kd.own_blk (Kd.R_ne HO417.out BK426.out (by decide)) | (rw [add_block]; exact Kd.own_blk (Kd.R_ne HO417.out BK426.out (by decide))) | (show (Addr.add _ _).block ≠ _; rw [add_block]; exact Kd.own_blk (Kd.R_ne HO417.out BK426.out (by decide))) | (dsimp only; exact Kd.own_blk (Kd.R_ne HO417.out BK426.out (by decide)))) _).trans (hHeld.1)))))))), ((cell_far (p := ⟨gb426, _, none⟩) (by first | exact Kd.own_blk (Kd.R_ne HO417.out BK426.out (by decide)) | (rw [add_block]; exact Kd.own_blk (Kd.R_ne HO417.out BK426.out (by decide))) | (show (Addr.add _ _).block ≠ _; rw [add_block]; exact Kd.own_blk (Kd.R_ne HO417.out BK426.out (by decide))) | (dsimp only; exact Kd.own_blk (Kd.R_ne HO417.out BK426.out (by decide)))) _).trans (((cell_far (p := ⟨gb426, _, none⟩) (by first | exact Kd.own_blk (Kd.R_ne HO417.out BK426.out (by decide)) | (rw [add_block]; exact Kd.own_blk (Kd.R_ne HO417.out BK426.out (by decide))) | (show (Addr.add _ _).block ≠ _; rw [add_block]; exact Kd.own_blk (Kd.R_ne HO417.out BK426.out (by decide))) | (dsimp only; exact Kd.own_blk (Kd.R_ne HO417.out BK426.out (by decide)))) _).trans (((cell_far (p := ⟨gb426, _, none⟩) (by first | exact Kd.own_blk (Kd.R_ne HO417.out BK426.out (by decide)) | (rw [add_block]; exact Kd.own_blk (Kd.R_ne HO417.out BK426.out (by decide))) | (show (Addr.add _ _).block ≠ _; rw [add_block]; exact Kd.own_blk (Kd.R_ne HO417.out BK426.out (by decide))) | (dsimp only; exact Kd.own_blk (Kd.R_ne HO417.out BK426.out (by decide)))) _).trans (((cell_far (p := ⟨gb426, _, none⟩) (by first | exact Kd.own_blk (Kd.R_ne HO417.out BK426.out (by decide)) | (rw [add_block]; exact Kd.own_blk (Kd.R_ne HO417.out BK426.out (by decide))) | (show (Addr.add _ _).block ≠ _; rw [add_block]; exact Kd.own_blk (Kd.R_ne HO417.out BK426.out (by decide))) | (dsimp only; exact Kd.own_blk (Kd.R_ne HO417.out BK426.out (by decide)))) _).trans (hHeld.2))))))))⟩ (fun hHeld => ?_)
          clear hK K
          refine done_ (done_of HT_.out (by kernel_rfl)) ?_
          have hnb54 := NB426_413.out
          have hnc54 := NB413_426.out
          have hnb55 := NB426_414.out
          have hnc55 := NB414_426.out
          obtain ⟨hcz56_0, hcz56_1, hcz56_2, hcz56_3, hfz56_0, hfz56_1, hfz56_2, hfz56_3⟩ := blk4 BK426.out
          try go_wp2_with (first | (go_at_call 18; (with_reducible refine (spec_SampleOk.calls k (rdOf ByteArray.empty t415 0) (rdOf ByteArray.empty t415 1) t419 t422 false _ A18.out).mono ?_); rintro e w57 ⟨rfl, hb⟩; have n0_ := Aside0.mk (Kd.R_below (by (with_reducible repeat (first | apply Kd.R_alloc | apply Kd.R_drewN | apply Kd.R_drew)); exact (Kd.R_mono (Kd.R_far (p := ⟨gb426, 3, none⟩) (Kd.R_far (p := ⟨gb426, 2, none⟩) (Kd.R_far (p := ⟨gb426, 1, none⟩) (Kd.R_far (p := ⟨gb426, 0, none⟩) (Kd.R_types HO417.out BK426.out (by decide)) (fun _ hk => hk.2) (.string (rdOf ByteArray.empty t415 0))) (fun _ hk => hk.2) (.string (rdOf ByteArray.empty t415 1))) (fun _ hk => hk.2) (.int .i64 t419)) (fun _ hk => hk.2) (.int .i64 t422)) (fun _ h_ => h_.1))) hb); have n1_ := Aside0.mk (blk_below (g := gb413) (o := .cells #[.string (⟨#[]⟩ : ByteArray), .string (⟨#[]⟩ : ByteArray), .int .i64 0, .int .i64 0] 35 (0, 0)) (blx BK413.out) hb); have n2_ := Aside0.mk (blk_below (g := gb414) (o := .cells #[.string (⟨#[]⟩ : ByteArray), .string (⟨#[]⟩ : ByteArray), .int .i64 0, .int .i64 0] 35 (0, 0)) (blx BK414.out) hb); have n3_ := Aside0.mk (blk_below (g := gb426) (o := .cells #[.string (rdOf ByteArray.empty t415 0), .string (rdOf ByteArray.empty t415 1), .int .i64 t419, .int .i64 t422] 35 (0, 0)) (by (with_reducible repeat (first | refine blk_drewN ?_ _ | refine blk_drew ?_ | refine blk_alloc ?_ _)); refine blk_put (cs := #[.string (rdOf ByteArray.empty t415 0), .string (rdOf ByteArray.empty t415 1), .int .i64 t419, .int .i64 0]) ?_ 3 _ rfl; (with_reducible repeat (first | refine blk_drewN ?_ _ | refine blk_drew ?_ | refine blk_alloc ?_ _)); refine blk_put (cs := #[.string (rdOf ByteArray.empty t415 0), .string (rdOf ByteArray.empty t415 1), .int .i64 0, .int .i64 0]) ?_ 2 _ rfl; (with_reducible repeat (first | refine blk_drewN ?_ _ | refine blk_drew ?_ | refine blk_alloc ?_ _)); refine blk_put (cs := #[.string (rdOf ByteArray.empty t415 0), .string (⟨#[]⟩ : ByteArray), .int .i64 0, .int .i64 0]) ?_ 1 _ rfl; (with_reducible repeat (first | refine blk_drewN ?_ _ | refine blk_drew ?_ | refine blk_alloc ?_ _)); refine blk_put (cs := #[.string (⟨#[]⟩ : ByteArray), .string (⟨#[]⟩ : ByteArray), .int .i64 0, .int .i64 0]) ?_ 0 _ rfl; (with_reducible repeat (first | refine blk_drewN ?_ _ | refine blk_drew ?_ | refine blk_alloc ?_ _)); exact BK426.out) hb); have n4_ := Aside0.mk (below_step chG hb); clear HO417; clear BK413; clear BK414; clear BK426; clear HB; have HO417 := n0_; have BK413 := n1_; have BK414 := n2_; have BK426 := n3_; have HB := n4_; clear n0_ n1_ n2_ n3_ n4_; (try clear hb); (try clear hb2); (try clear hk); (try clear hi); obtain ⟨hcz58_0, hcz58_1, hcz58_2, hcz58_3, hfz58_0, hfz58_1, hfz58_2, hfz58_3⟩ := blk4 BK414.out; obtain ⟨hcz59_0, hcz59_1, hcz59_2, hcz59_3, hfz59_0, hfz59_1, hfz59_2, hfz59_3⟩ := blk4 BK413.out))
          refine bodyPost_ret (results_ct rfl _ _ gb413 35 #[.string (⟨#[]⟩ : ByteArray), .string (⟨#[]⟩ : ByteArray), .int .i64 0, .int .i64 0] (0, 0) _ rfl (by (with_reducible repeat (first | refine blk_drewN ?_ _ | refine blk_drew ?_ | refine blk_alloc ?_ _)); refine blk_put (cs := #[.string (⟨#[]⟩ : ByteArray), .string (⟨#[]⟩ : ByteArray), .int .i64 0, .int .i64 0]) ?_ 3 _ rfl; (with_reducible repeat (first | refine blk_drewN ?_ _ | refine blk_drew ?_ | refine blk_alloc ?_ _)); refine blk_put (cs := #[.string (⟨#[]⟩ : ByteArray), .string (⟨#[]⟩ : ByteArray), .int .i64 0, .int .i64 0]) ?_ 2 _ rfl; (with_reducible repeat (first | refine blk_drewN ?_ _ | refine blk_drew ?_ | refine blk_alloc ?_ _)); refine blk_put (cs := #[.string (⟨#[]⟩ : ByteArray), .string (⟨#[]⟩ : ByteArray), .int .i64 0, .int .i64 0]) ?_ 1 _ rfl; (with_reducible repeat (first | refine blk_drewN ?_ _ | refine blk_drew ?_ | refine blk_alloc ?_ _)); refine blk_put (cs := #[.string (⟨#[]⟩ : ByteArray), .string (⟨#[]⟩ : ByteArray), .int .i64 0, .int .i64 0]) ?_ 0 _ rfl; (with_reducible repeat (first | refine blk_drewN ?_ _ | refine blk_drew ?_ | refine blk_alloc ?_ _)); exact BK413.out) Tryz.underlying35 rfl (by kernel_rfl)) rfl ?_
          exact ⟨chE, chG⟩
        ·replace c17 := Bool.eq_false_iff.mpr c17
         subst c17
         have H1 : (some ((⟨#[]⟩ : ByteArray), (⟨#[]⟩ : ByteArray), 0, 0, false)) = some (r1, r2, r3, r4, r5) := by rw [if_neg (show ¬ (false = true) by decide)] at H; exact H
         clear H
         have H := H1
         clear H1
         simp only [Option.some.injEq, Prod.mk.injEq] at H
         obtain ⟨rfl, rfl, rfl, rfl, rfl⟩ := H
         have hs70 : w29.cell? ⟨gb426, 0, none⟩ = some (.string (⟨#[]⟩ : ByteArray)) := (blk_cell BK426.out 0).trans rfl
         have hfs70 := blk_frozen BK426.out 0
         have hns70_0 := NB413_426.out
         have hns70_1 := NB414_426.out
         have hms70_0 := NB426_413.out
         have hms70_1 := NB426_414.out
         have hs71 : w29.cell? ⟨gb426, 1, none⟩ = some (.string (⟨#[]⟩ : ByteArray)) := (blk_cell BK426.out 1).trans rfl
         have hfs71 := blk_frozen BK426.out 1
         have hns71_0 := NB413_426.out
         have hns71_1 := NB414_426.out
         have hms71_0 := NB426_413.out
         have hms71_1 := NB426_414.out
         have hs72 : w29.cell? ⟨gb426, 2, none⟩ = some (.int .i64 0) := (blk_cell BK426.out 2).trans rfl
         have hfs72 := blk_frozen BK426.out 2
         have hns72_0 := NB413_426.out
         have hns72_1 := NB414_426.out
         have hms72_0 := NB426_413.out
         have hms72_1 := NB426_414.out
         have hs73 : w29.cell? ⟨gb426, 3, none⟩ = some (.int .i64 0) := (blk_cell BK426.out 3).trans rfl
         have hfs73 := blk_frozen BK426.out 3
         have hns73_0 := NB413_426.out
         have hns73_1 := NB414_426.out
         have hms73_0 := NB426_413.out
         have hms73_1 := NB426_414.out
         refine skip_ (w1 := ?_) (by rfl) rfl ?_ ?_
         rotate_left
         ·go_simp
          rfl
         refine hK.out _ _ ⟨((cell_far (p := ⟨gb426, _, none⟩) (by first | exact Kd.own_blk (Kd.R_ne HO417.out BK426.out (by decide)) | (rw [add_block]; exact Kd.own_blk (Kd.R_ne HO417.out BK426.out (by decide))) | (show (Addr.add _ _).block ≠ _; rw [add_block]; exact Kd.own_blk (Kd.R_ne HO417.out BK426.out (by decide))) | (dsimp only; exact Kd.own_blk (Kd.R_ne HO417.out BK426.out (by decide)))) _).trans (((cell_far (p := ⟨gb426, _, none⟩) (by first | exact Kd.own_blk (Kd.R_ne HO417.out BK426.out (by decide)) | (rw [add_block]; exact Kd.own_blk (Kd.R_ne HO417.out BK426.out (by decide))) | (show (Addr.add _ _).block ≠ _; rw [add_block]; exact Kd.own_blk (Kd.R_ne HO417.out BK426.out (by decide))) | (dsimp only; exact Kd.own_blk (Kd.R_ne HO417.out BK426.out (by decide)))) _).trans (((cell_far (p := ⟨gb426, _, none⟩) (by first | exact Kd.own_blk (Kd.R_ne HO417.out BK426.out (by decide)) | (rw [add_block]; exact Kd.own_blk (Kd.R_ne HO417.out BK426.out (by decide))) | (show (Addr.add _ _).block ≠ _; rw [add_block]; exact Kd.own_blk (Kd.R_ne HO417.out BK426.out (by decide))) | (dsimp only; exact Kd.own_blk (Kd.R_ne HO417.out BK426.out (by decide)))) _).trans (((cell_far (p := ⟨gb426, _, none⟩) (by first | exact Kd.own_blk (Kd.R_ne HO417.out BK426.out (by decide)) | (rw [add_block]; exact Kd.own_blk (Kd.R_ne HO417.out BK426.out (by decide))) | (show (Addr.add _ _).block ≠ _; rw [add_block]; exact Kd.own_blk (Kd.R_ne HO417.out BK426.out (by decide))) | (dsimp only; exact Kd.own_blk (Kd.R_ne HO417.out BK426.out (by decide)))) _).trans (hHeld.1)))))))), ((cell_far (p := ⟨gb426, _, none⟩) (by first | exact Kd.own_blk (Kd.R_ne HO417.out BK426.out (by decide)) | (rw [add_block]; exact Kd.own_blk (Kd.R_ne HO417.out BK426.out (by decide))) | (show (Addr.add _ _).block ≠ _; rw [add_block]; exact Kd.own_blk (Kd.R_ne HO417.out BK426.out (by decide))) | (dsimp only; exact Kd.own_blk (Kd.R_ne HO417.out BK426.out (by decide)))) _).trans (((cell_far (p := ⟨gb426, _, none⟩) (by first | exact Kd.own_blk (Kd.R_ne HO417.out BK426.out (by decide)) | (rw [add_block]; exact Kd.own_blk (Kd.R_ne HO417.out BK426.out (by decide))) | (show (Addr.add _ _).block ≠ _; rw [add_block]; exact Kd.own_blk (Kd.R_ne HO417.out BK426.out (by decide))) | (dsimp only; exact Kd.own_blk (Kd.R_ne HO417.out BK426.out (by decide)))) _).trans (((cell_far (p := ⟨gb426, _, none⟩) (by first | exact Kd.own_blk (Kd.R_ne HO417.out BK426.out (by decide)) | (rw [add_block]; exact Kd.own_blk (Kd.R_ne HO417.out BK426.out (by decide))) | (show (Addr.add _ _).block ≠ _; rw [add_block]; exact Kd.own_blk (Kd.R_ne HO417.out BK426.out (by decide))) | (dsimp only; exact Kd.own_blk (Kd.R_ne HO417.out BK426.out (by decide)))) _).trans (((cell_far (p := ⟨gb426, _, none⟩) (by first | exact Kd.own_blk (Kd.R_ne HO417.out BK426.out (by decide)) | (rw [add_block]; exact Kd.own_blk (Kd.R_ne HO417.out BK426.out (by decide))) | (show (Addr.add _ _).block ≠ _; rw [add_block]; exact Kd.own_blk (Kd.R_ne HO417.out BK426.out (by decide))) | (dsimp only; exact Kd.own_blk (Kd.R_ne HO417.out BK426.out (by decide)))) _).trans (hHeld.2))))))))⟩ (fun hHeld => ?_)
         clear hK K
         refine done_ (done_of HT_.out (by kernel_rfl)) ?_
         have hnb74 := NB414_426.out
         have hnc74 := NB426_414.out
         obtain ⟨hcz75_0, hcz75_1, hcz75_2, hcz75_3, hfz75_0, hfz75_1, hfz75_2, hfz75_3⟩ := blk4 BK414.out
         have hnb76 := NB413_426.out
         have hnc76 := NB426_413.out
         obtain ⟨hcz77_0, hcz77_1, hcz77_2, hcz77_3, hfz77_0, hfz77_1, hfz77_2, hfz77_3⟩ := blk4 BK413.out
         try go_wp2
         refine bodyPost_ret (results_ct rfl _ _ gb413 35 #[.string (⟨#[]⟩ : ByteArray), .string (⟨#[]⟩ : ByteArray), .int .i64 0, .int .i64 0] (0, 0) _ rfl (by (with_reducible repeat (first | refine blk_drewN ?_ _ | refine blk_drew ?_ | refine blk_alloc ?_ _)); refine blk_put (cs := #[.string (⟨#[]⟩ : ByteArray), .string (⟨#[]⟩ : ByteArray), .int .i64 0, .int .i64 0]) ?_ 3 _ rfl; (with_reducible repeat (first | refine blk_drewN ?_ _ | refine blk_drew ?_ | refine blk_alloc ?_ _)); refine blk_put (cs := #[.string (⟨#[]⟩ : ByteArray), .string (⟨#[]⟩ : ByteArray), .int .i64 0, .int .i64 0]) ?_ 2 _ rfl; (with_reducible repeat (first | refine blk_drewN ?_ _ | refine blk_drew ?_ | refine blk_alloc ?_ _)); refine blk_put (cs := #[.string (⟨#[]⟩ : ByteArray), .string (⟨#[]⟩ : ByteArray), .int .i64 0, .int .i64 0]) ?_ 1 _ rfl; (with_reducible repeat (first | refine blk_drewN ?_ _ | refine blk_drew ?_ | refine blk_alloc ?_ _)); refine blk_put (cs := #[.string (⟨#[]⟩ : ByteArray), .string (⟨#[]⟩ : ByteArray), .int .i64 0, .int .i64 0]) ?_ 0 _ rfl; (with_reducible repeat (first | refine blk_drewN ?_ _ | refine blk_drew ?_ | refine blk_alloc ?_ _)); refine blk_far ?_ NB413_426.out _; (with_reducible repeat (first | refine blk_drewN ?_ _ | refine blk_drew ?_ | refine blk_alloc ?_ _)); refine blk_far ?_ NB413_426.out _; (with_reducible repeat (first | refine blk_drewN ?_ _ | refine blk_drew ?_ | refine blk_alloc ?_ _)); refine blk_far ?_ NB413_426.out _; (with_reducible repeat (first | refine blk_drewN ?_ _ | refine blk_drew ?_ | refine blk_alloc ?_ _)); refine blk_far ?_ NB413_426.out _; (with_reducible repeat (first | refine blk_drewN ?_ _ | refine blk_drew ?_ | refine blk_alloc ?_ _)); exact BK413.out) Tryz.underlying35 rfl (by kernel_rfl)) rfl ?_
         exact ⟨chE, chG⟩
       ·replace c16 := Bool.eq_false_iff.mpr c16
        subst c16
        have H1 : (some ((⟨#[]⟩ : ByteArray), (⟨#[]⟩ : ByteArray), 0, 0, false)) = some (r1, r2, r3, r4, r5) := by rw [if_neg (show ¬ (false = true) by decide)] at H; exact H
        clear H
        have H := H1
        clear H1
        simp only [Option.some.injEq, Prod.mk.injEq] at H
        obtain ⟨rfl, rfl, rfl, rfl, rfl⟩ := H
        have hs88 : w29.cell? ⟨gb426, 0, none⟩ = some (.string (⟨#[]⟩ : ByteArray)) := (blk_cell BK426.out 0).trans rfl
        have hfs88 := blk_frozen BK426.out 0
        have hns88_0 := NB413_426.out
        have hns88_1 := NB414_426.out
        have hms88_0 := NB426_413.out
        have hms88_1 := NB426_414.out
        have hs89 : w29.cell? ⟨gb426, 1, none⟩ = some (.string (⟨#[]⟩ : ByteArray)) := (blk_cell BK426.out 1).trans rfl
        have hfs89 := blk_frozen BK426.out 1
        have hns89_0 := NB413_426.out
        have hns89_1 := NB414_426.out
        have hms89_0 := NB426_413.out
        have hms89_1 := NB426_414.out
        have hs90 : w29.cell? ⟨gb426, 2, none⟩ = some (.int .i64 0) := (blk_cell BK426.out 2).trans rfl
        have hfs90 := blk_frozen BK426.out 2
        have hns90_0 := NB413_426.out
        have hns90_1 := NB414_426.out
        have hms90_0 := NB426_413.out
        have hms90_1 := NB426_414.out
        have hs91 : w29.cell? ⟨gb426, 3, none⟩ = some (.int .i64 0) := (blk_cell BK426.out 3).trans rfl
        have hfs91 := blk_frozen BK426.out 3
        have hns91_0 := NB413_426.out
        have hns91_1 := NB414_426.out
        have hms91_0 := NB426_413.out
        have hms91_1 := NB426_414.out
        refine skip_ (w1 := ?_) (by rfl) rfl ?_ ?_
        rotate_left
        ·go_simp
         rfl
        refine hK.out _ _ ⟨((cell_far (p := ⟨gb426, _, none⟩) (by first | exact Kd.own_blk (Kd.R_ne HO417.out BK426.out (by decide)) | (rw [add_block]; exact Kd.own_blk (Kd.R_ne HO417.out BK426.out (by decide))) | (show (Addr.add _ _).block ≠ _; rw [add_block]; exact Kd.own_blk (Kd.R_ne HO417.out BK426.out (by decide))) | (dsimp only; exact Kd.own_blk (Kd.R_ne HO417.out BK426.out (by decide)))) _).trans (((cell_far (p := ⟨gb426, _, none⟩) (by first | exact Kd.own_blk (Kd.R_ne HO417.out BK426.out (by decide)) | (rw [add_block]; exact Kd.own_blk (Kd.R_ne HO417.out BK426.out (by decide))) | (show (Addr.add _ _).block ≠ _; rw [add_block]; exact Kd.own_blk (Kd.R_ne HO417.out BK426.out (by decide))) | (dsimp only; exact Kd.own_blk (Kd.R_ne HO417.out BK426.out (by decide)))) _).trans (((cell_far (p := ⟨gb426, _, none⟩) (by first | exact Kd.own_blk (Kd.R_ne HO417.out BK426.out (by decide)) | (rw [add_block]; exact Kd.own_blk (Kd.R_ne HO417.out BK426.out (by decide))) | (show (Addr.add _ _).block ≠ _; rw [add_block]; exact Kd.own_blk (Kd.R_ne HO417.out BK426.out (by decide))) | (dsimp only; exact Kd.own_blk (Kd.R_ne HO417.out BK426.out (by decide)))) _).trans (((cell_far (p := ⟨gb426, _, none⟩) (by first | exact Kd.own_blk (Kd.R_ne HO417.out BK426.out (by decide)) | (rw [add_block]; exact Kd.own_blk (Kd.R_ne HO417.out BK426.out (by decide))) | (show (Addr.add _ _).block ≠ _; rw [add_block]; exact Kd.own_blk (Kd.R_ne HO417.out BK426.out (by decide))) | (dsimp only; exact Kd.own_blk (Kd.R_ne HO417.out BK426.out (by decide)))) _).trans (hHeld.1)))))))), ((cell_far (p := ⟨gb426, _, none⟩) (by first | exact Kd.own_blk (Kd.R_ne HO417.out BK426.out (by decide)) | (rw [add_block]; exact Kd.own_blk (Kd.R_ne HO417.out BK426.out (by decide))) | (show (Addr.add _ _).block ≠ _; rw [add_block]; exact Kd.own_blk (Kd.R_ne HO417.out BK426.out (by decide))) | (dsimp only; exact Kd.own_blk (Kd.R_ne HO417.out BK426.out (by decide)))) _).trans (((cell_far (p := ⟨gb426, _, none⟩) (by first | exact Kd.own_blk (Kd.R_ne HO417.out BK426.out (by decide)) | (rw [add_block]; exact Kd.own_blk (Kd.R_ne HO417.out BK426.out (by decide))) | (show (Addr.add _ _).block ≠ _; rw [add_block]; exact Kd.own_blk (Kd.R_ne HO417.out BK426.out (by decide))) | (dsimp only; exact Kd.own_blk (Kd.R_ne HO417.out BK426.out (by decide)))) _).trans (((cell_far (p := ⟨gb426, _, none⟩) (by first | exact Kd.own_blk (Kd.R_ne HO417.out BK426.out (by decide)) | (rw [add_block]; exact Kd.own_blk (Kd.R_ne HO417.out BK426.out (by decide))) | (show (Addr.add _ _).block ≠ _; rw [add_block]; exact Kd.own_blk (Kd.R_ne HO417.out BK426.out (by decide))) | (dsimp only; exact Kd.own_blk (Kd.R_ne HO417.out BK426.out (by decide)))) _).trans (((cell_far (p := ⟨gb426, _, none⟩) (by first | exact Kd.own_blk (Kd.R_ne HO417.out BK426.out (by decide)) | (rw [add_block]; exact Kd.own_blk (Kd.R_ne HO417.out BK426.out (by decide))) | (show (Addr.add _ _).block ≠ _; rw [add_block]; exact Kd.own_blk (Kd.R_ne HO417.out BK426.out (by decide))) | (dsimp only; exact Kd.own_blk (Kd.R_ne HO417.out BK426.out (by decide)))) _).trans (hHeld.2))))))))⟩ (fun hHeld => ?_)
        clear hK K
        refine done_ (done_of HT_.out (by kernel_rfl)) ?_
        have hnb92 := NB414_426.out
        have hnc92 := NB426_414.out
        obtain ⟨hcz93_0, hcz93_1, hcz93_2, hcz93_3, hfz93_0, hfz93_1, hfz93_2, hfz93_3⟩ := blk4 BK414.out
        have hnb94 := NB413_426.out
        have hnc94 := NB426_413.out
        obtain ⟨hcz95_0, hcz95_1, hcz95_2, hcz95_3, hfz95_0, hfz95_1, hfz95_2, hfz95_3⟩ := blk4 BK413.out
        try go_wp2
        refine bodyPost_ret (results_ct rfl _ _ gb413 35 #[.string (⟨#[]⟩ : ByteArray), .string (⟨#[]⟩ : ByteArray), .int .i64 0, .int .i64 0] (0, 0) _ rfl (by (with_reducible repeat (first | refine blk_drewN ?_ _ | refine blk_drew ?_ | refine blk_alloc ?_ _)); refine blk_put (cs := #[.string (⟨#[]⟩ : ByteArray), .string (⟨#[]⟩ : ByteArray), .int .i64 0, .int .i64 0]) ?_ 3 _ rfl; (with_reducible repeat (first | refine blk_drewN ?_ _ | refine blk_drew ?_ | refine blk_alloc ?_ _)); refine blk_put (cs := #[.string (⟨#[]⟩ : ByteArray), .string (⟨#[]⟩ : ByteArray), .int .i64 0, .int .i64 0]) ?_ 2 _ rfl; (with_reducible repeat (first | refine blk_drewN ?_ _ | refine blk_drew ?_ | refine blk_alloc ?_ _)); refine blk_put (cs := #[.string (⟨#[]⟩ : ByteArray), .string (⟨#[]⟩ : ByteArray), .int .i64 0, .int .i64 0]) ?_ 1 _ rfl; (with_reducible repeat (first | refine blk_drewN ?_ _ | refine blk_drew ?_ | refine blk_alloc ?_ _)); refine blk_put (cs := #[.string (⟨#[]⟩ : ByteArray), .string (⟨#[]⟩ : ByteArray), .int .i64 0, .int .i64 0]) ?_ 0 _ rfl; (with_reducible repeat (first | refine blk_drewN ?_ _ | refine blk_drew ?_ | refine blk_alloc ?_ _)); refine blk_far ?_ NB413_426.out _; (with_reducible repeat (first | refine blk_drewN ?_ _ | refine blk_drew ?_ | refine blk_alloc ?_ _)); refine blk_far ?_ NB413_426.out _; (with_reducible repeat (first | refine blk_drewN ?_ _ | refine blk_drew ?_ | refine blk_alloc ?_ _)); refine blk_far ?_ NB413_426.out _; (with_reducible repeat (first | refine blk_drewN ?_ _ | refine blk_drew ?_ | refine blk_alloc ?_ _)); refine blk_far ?_ NB413_426.out _; (with_reducible repeat (first | refine blk_drewN ?_ _ | refine blk_drew ?_ | refine blk_alloc ?_ _)); exact BK413.out) Tryz.underlying35 rfl (by kernel_rfl)) rfl ?_
        exact ⟨chE, chG⟩
      ·rw [if_neg c15] at H
       exact absurd H (by simp)
     ·rw [if_neg c14] at H
      exact absurd H (by simp)
    ·rw [if_neg c12] at H
     exact absurd H (by simp)
   ·rw [if_neg c10] at H
    exact absurd H (by simp)
  ·rw [if_neg c9] at H
   have c9b0 : ((t415.length : Int) == 4) = false := beq_eq_false_iff_ne.mpr c9
   have c9b1 : ((t415.length : Int) != 4) = true := bne_iff_ne.mpr c9
   simp only [Option.some.injEq, Prod.mk.injEq] at H
   obtain ⟨rfl, rfl, rfl, rfl, rfl⟩ := H
   go_enter Tryz.func32, Tryz.ntmps32
   go_wp2_with (first | ((with_reducible refine gate_dst (N := 2) rfl ?_); refine box_event ?hg (N := 2) ?hd (cs := #[.string (⟨#[]⟩ : ByteArray), .string (⟨#[]⟩ : ByteArray), .int .i64 0, .int .i64 0]) (t := 35) ?hr ?_; (case hd => rfl); (case hg => rfl); (case hr => first | (go_simp; done) | (go_simp; rfl)); intro gb413 hg w96 hbox hb; have n0_ := Aside0.mk (below_step chB hb); have n1_ := Aside0.mk (hbox); have n2_ := Aside0.mk ((by rw [hg]; exact (below_size chB) : w.heap.size ≤ gb413)); have n3_ := Aside0.mk ((by rw [hg]; exact (below_size chB) : w.heap.size ≤ gb413)); clear HB; have HB := n0_; have BK413 := n1_; have GW413 := n2_; have GE413 := n3_; clear n0_ n1_ n2_ n3_; clear hb hbox hg) | ((with_reducible refine gate_dst (N := 4) rfl ?_); refine box_event ?hg (N := 4) ?hd (cs := #[.string (⟨#[]⟩ : ByteArray), .string (⟨#[]⟩ : ByteArray), .int .i64 0, .int .i64 0]) (t := 35) ?hr ?_; (case hd => rfl); (case hg => rfl); (case hr => first | (go_simp; done) | (go_simp; rfl)); intro gb414 hg w97 hbox hb; have n0_ := Aside0.mk (blk_below (g := gb413) (o := .cells #[.string (⟨#[]⟩ : ByteArray), .string (⟨#[]⟩ : ByteArray), .int .i64 0, .int .i64 0] 35 (0, 0)) (blx BK413.out) hb); have n1_ := Aside0.mk (below_step chG hb); have n2_ := Aside0.mk (hbox); have n3_ := Aside0.mk ((by rw [hg]; exact (below_size chG) : w.heap.size ≤ gb414)); have n4_ := Aside0.mk ((by rw [hg]; exact (below_size chG) : w.heap.size ≤ gb414)); have n5_ := Aside0.mk ((by rw [hg]; exact Nat.ne_of_lt (blk_lt (g := gb413) (o := .cells #[.string (⟨#[]⟩ : ByteArray), .string (⟨#[]⟩ : ByteArray), .int .i64 0, .int .i64 0] 35 (0, 0)) (blx BK413.out)) : gb413 ≠ gb414)); have n6_ := Aside0.mk ((by rw [hg]; exact Nat.ne_of_gt (blk_lt (g := gb413) (o := .cells #[.string (⟨#[]⟩ : ByteArray), .string (⟨#[]⟩ : ByteArray), .int .i64 0, .int .i64 0] 35 (0, 0)) (blx BK413.out)) : gb414 ≠ gb413)); clear BK413; clear HB; have BK413 := n0_; have HB := n1_; have BK414 := n2_; have GW414 := n3_; have GE414 := n4_; have NB413_414 := n5_; have NB414_413 := n6_; clear n0_ n1_ n2_ n3_ n4_ n5_ n6_; clear hb hbox hg; have hnb98 := NB414_413.out; have hnc98 := NB413_414.out; obtain ⟨hcz99_0, hcz99_1, hcz99_2, hcz99_3, hfz99_0, hfz99_1, hfz99_2, hfz99_3⟩ := blk4 BK414.out) | ((with_reducible refine gate_callee (f := 59) rfl ?_); refine goesL_ (some 17) rfl rfl Tryz.func59 (by kernel_rfl) rfl #[.string a0, .int .u8 32] rfl chM ?_; (with_reducible refine (spec_l01Parts.calls k a0 32 t415 _ A8.out).mono ?_); rintro e w100 ⟨v416, rfl, ho0, hb⟩; refine ⟨_, rfl, ?_⟩; have n0_ := Aside0.mk (Kd.R_lower ho0 (below_size chG)); have n1_ := Aside0.mk (blk_below (g := gb413) (o := .cells #[.string (⟨#[]⟩ : ByteArray), .string (⟨#[]⟩ : ByteArray), .int .i64 0, .int .i64 0] 35 (0, 0)) (blx BK413.out) hb); have n2_ := Aside0.mk (blk_below (g := gb414) (o := .cells #[.string (⟨#[]⟩ : ByteArray), .string (⟨#[]⟩ : ByteArray), .int .i64 0, .int .i64 0] 35 (0, 0)) (by (with_reducible repeat (first | refine blk_drewN ?_ _ | refine blk_drew ?_ | refine blk_alloc ?_ _)); refine blk_put (cs := #[.string (⟨#[]⟩ : ByteArray), .string (⟨#[]⟩ : ByteArray), .int .i64 0, .int .i64 0]) ?_ 3 _ rfl; (with_reducible repeat (first | refine blk_drewN ?_ _ | refine blk_drew ?_ | refine blk_alloc ?_ _)); refine blk_put (cs := #[.string (⟨#[]⟩ : ByteArray), .string (⟨#[]⟩ : ByteArray), .int .i64 0, .int .i64 0]) ?_ 2 _ rfl; (with_reducible repeat (first | refine blk_drewN ?_ _ | refine blk_drew ?_ | refine blk_alloc ?_ _)); refine blk_put (cs := #[.string (⟨#[]⟩ : ByteArray), .string (⟨#[]⟩ : ByteArray), .int .i64 0, .int .i64 0]) ?_ 1 _ rfl; (with_reducible repeat (first | refine blk_drewN ?_ _ | refine blk_drew ?_ | refine blk_alloc ?_ _)); refine blk_put (cs := #[.string (⟨#[]⟩ : ByteArray), .string (⟨#[]⟩ : ByteArray), .int .i64 0, .int .i64 0]) ?_ 0 _ rfl; (with_reducible repeat (first | refine blk_drewN ?_ _ | refine blk_drew ?_ | refine blk_alloc ?_ _)); exact BK414.out) hb); have n3_ := Aside0.mk (below_step chG hb); clear BK413; clear BK414; clear HB; have HO417 := n0_; have BK413 := n1_; have BK414 := n2_; have HB := n3_; clear n0_ n1_ n2_ n3_; (try clear hb); (try clear hb2); (try clear hk); (try clear hi); (try clear ho0); obtain ⟨Ao101, co101, eo101⟩ := Kd.R_slice HO417.out; subst eo101; obtain ⟨hcz102_0, hcz102_1, hcz102_2, hcz102_3, hfz102_0, hfz102_1, hfz102_2, hfz102_3⟩ := blk4 BK414.out; obtain ⟨hcz103_0, hcz103_1, hcz103_2, hcz103_3, hfz103_0, hfz103_1, hfz103_2, hfz103_3⟩ := blk4 BK413.out))
   refine bodyPost_ret (results_ct rfl _ _ gb413 35 #[.string (⟨#[]⟩ : ByteArray), .string (⟨#[]⟩ : ByteArray), .int .i64 0, .int .i64 0] (0, 0) _ rfl (by (with_reducible repeat (first | refine blk_drewN ?_ _ | refine blk_drew ?_ | refine blk_alloc ?_ _)); refine blk_put (cs := #[.string (⟨#[]⟩ : ByteArray), .string (⟨#[]⟩ : ByteArray), .int .i64 0, .int .i64 0]) ?_ 3 _ rfl; (with_reducible repeat (first | refine blk_drewN ?_ _ | refine blk_drew ?_ | refine blk_alloc ?_ _)); refine blk_put (cs := #[.string (⟨#[]⟩ : ByteArray), .string (⟨#[]⟩ : ByteArray), .int .i64 0, .int .i64 0]) ?_ 2 _ rfl; (with_reducible repeat (first | refine blk_drewN ?_ _ | refine blk_drew ?_ | refine blk_alloc ?_ _)); refine blk_put (cs := #[.string (⟨#[]⟩ : ByteArray), .string (⟨#[]⟩ : ByteArray), .int .i64 0, .int .i64 0]) ?_ 1 _ rfl; (with_reducible repeat (first | refine blk_drewN ?_ _ | refine blk_drew ?_ | refine blk_alloc ?_ _)); refine blk_put (cs := #[.string (⟨#[]⟩ : ByteArray), .string (⟨#[]⟩ : ByteArray), .int .i64 0, .int .i64 0]) ?_ 0 _ rfl; (with_reducible repeat (first | refine blk_drewN ?_ _ | refine blk_drew ?_ | refine blk_alloc ?_ _)); exact BK413.out) Tryz.underlying35 rfl (by kernel_rfl)) rfl ?_
   exact ⟨chE, chG⟩
end Go.Proofs.YtbbnlagdahickaaGreatDoor.PFnSamples
