/- What the Go functions spec.ParseScrape, laws.same compute, as Lean functions, and the proof that each call comes to just that. Conditions: those at each theorem. -/
import Derived.Test.YtbbnlagdahickaaGreatDoorOFnSamplesx0
import Derived.Test.YtbbnlagdahickaaGreatDoorOFnSamplesx10
import Derived.Test.YtbbnlagdahickaaGreatDoorOFnSamplesx13
namespace Go.Proofs.YtbbnlagdahickaaGreatDoor.PFnSamples
open Go.RowKit Go.Proofs.YtbbnlagdahickaaGreatDoorW.PrintWords Go.Proofs.YtbbnlagdahickaaGreatDoorW.PrintLast Go.Proofs.YtbbnlagdahickaaGreatDoorW.PrintMore
attribute [local go_sem] max2_int min2_int max_two min_two max_three min_three max_four min_four   -- for this text's walks alone
set_option linter.unusedVariables false
set_option linter.unusedSimpArgs false
/-! ### spec_ParseScrape: function 12 -/
mutual
def spec_ParseScrape.l0 : Nat → List ByteArray → List (S35) → List Int → Int → Option ((List (S35)) × List Int)
 | 0, _, _, _, _ => none
 | k + 1, x4, x5, x6, x7 => if x7 < (x4.length : Int) then (if 0 ≤ x7 then (if (rdOf ByteArray.empty x4 x7).toList = ([] : List UInt8) then (spec_ParseScrape.j1 k x4 x5 x6 x7 true) else (if 0 < ((rdOf ByteArray.empty x4 x7).size : Int) then (spec_ParseScrape.j1 k x4 x5 x6 x7 ((bt (rdOf ByteArray.empty x4 x7) 0) == 35)) else (none))) else (none)) else (some (x5, x6))
def spec_ParseScrape.j1 : Nat → List ByteArray → List (S35) → List Int → Int → Bool → Option ((List (S35)) × List Int)
 | 0, _, _, _, _, _ => none
 | k + 1, x4, x5, x6, x7, x41 => if x41 = true then (spec_ParseScrape.l0 k x4 x5 x6 (wrap64 (x7 + 1))) else (if 0 ≤ x7 then (if x7 < (x4.length : Int) then ((spec_ParseSample.f k (rdOf ByteArray.empty x4 x7)).bind fun bt446 => (spec_ParseScrape.l1 k x4 x5 x6 x7 bt446.2.2.2.2 0 bt446.1 bt446.2.1 bt446.2.2.1 bt446.2.2.2.1)) else (none)) else (none))
def spec_ParseScrape.l1 : Nat → List ByteArray → List (S35) → List Int → Int → Bool → Int → ByteArray → ByteArray → Int → Int → Option ((List (S35)) × List Int)
 | 0, _, _, _, _, _, _, _, _, _, _ => none
 | k + 1, x4, x5, x6, x7, x9, x10, x452000, x452001, x452002, x452003 => if x10 < (x5.length : Int) then (if 0 ≤ x10 then (if ((rd_T35 x5 x10).f0).toList = x452000.toList then (if ((rd_T35 x5 x10).f1).toList = x452001.toList then (if ((rd_T35 x5 x10).f3) = x452003 then (spec_ParseScrape.l1 k x4 x5 x6 x7 false (wrap64 (x10 + 1)) x452000 x452001 x452002 x452003) else (spec_ParseScrape.l1 k x4 x5 x6 x7 x9 (wrap64 (x10 + 1)) x452000 x452001 x452002 x452003)) else (spec_ParseScrape.l1 k x4 x5 x6 x7 x9 (wrap64 (x10 + 1)) x452000 x452001 x452002 x452003)) else (spec_ParseScrape.l1 k x4 x5 x6 x7 x9 (wrap64 (x10 + 1)) x452000 x452001 x452002 x452003)) else (none)) else (if x9 = true then (if x5.length < 2932031007402 then (spec_ParseScrape.l0 k x4 (x5 ++ [(⟨x452000, x452001, x452002, x452003⟩ : S35)]) x6 (wrap64 (x7 + 1))) else (none)) else (if x6.length < 17592186044416 then (spec_ParseScrape.l0 k x4 x5 (x6 ++ [wrap64 (x7 + 1)]) (wrap64 (x7 + 1))) else (none)))
end
def spec_ParseScrape.f (k : Nat) (a0 : ByteArray) : Option ((List (S35)) × List Int) := if (a0.size : Int) > 3000 then (some (([] : List (S35)), (([0] : List Int)))) else ((spec_l02Lines.f k a0).bind fun t431 => (if (t431.length : Int) > 100 then (some (([] : List (S35)), (([0] : List Int)))) else (spec_ParseScrape.l0 k t431 (([] : List (S35))) (([] : List Int)) 0)))
set_option maxHeartbeats 8000000 in
set_option maxRecDepth 100000 in
theorem spec_ParseScrape.calls (k : Nat) (a0 : ByteArray) (r1 : List (S35)) (r2 : List Int) (w : World) (h : spec_ParseScrape.f k a0 = some (r1, r2)) :
  Calls Tryz.prog 12 #[.string a0] w fun e w' => ∃ v0_ v1_ : Value, e = .returned (.tuple #[v0_, v1_]) ∧ Kd.R k35 35 w' w.heap.size (fun _ => True) v0_ r1 ∧ Kd.R (Kd.int .i64) 3 w' w.heap.size (fun _ => True) v1_ r2 ∧ Below w.heap.size w w' := by
 have hu35 := Tryz.underlying35
 have HB := Aside0.mk (Below.refl w.heap.size w)
 have H : (if (a0.size : Int) > 3000 then (some (([] : List (S35)), (([0] : List Int)))) else ((spec_l02Lines.f k a0).bind fun t431 => (if (t431.length : Int) > 100 then (some (([] : List (S35)), (([0] : List Int)))) else (spec_ParseScrape.l0 k t431 (([] : List (S35))) (([] : List Int)) 0)))) = some (r1, r2) := h
 clear h
 by_cases c2 : (a0.size : Int) > 3000
 ·rw [if_pos c2] at H
  have c2b0 : decide (3000 < (a0.size : Int)) = true := decide_eq_true c2
  have c2b1 : decide (3000 < a0.size) = true := decide_eq_true (by omega)
  clear c2
  obtain ⟨y428, hy428⟩ : ∃ y_ : List Int, y_ = (([0] : List Int)) := ⟨_, rfl⟩
  replace H : (some (([] : List (S35)), y428)) = some (r1, r2) := by first | (rw [hy428]; with_reducible exact H) | (have H2_ := (Option.bind_some _ _).symm.trans H; rw [hy428]; with_reducible exact H2_) | (have H2_ := (Option.bind_some _ _).symm.trans H; with_reducible exact H2_) | with_reducible exact H | (rw [hy428]; exact H) | exact H
  have Ny428 := Aside0.mk hy428
  clear hy428
  simp only [Option.some.injEq, Prod.mk.injEq] at H
  obtain ⟨rfl, rfl⟩ := H
  go_enter Tryz.func12, Tryz.ntmps12
  go_wp2_with (first | ((with_reducible refine gate_dst (N := 14) rfl ?_); refine Kd.R_lit (Kd.int .i64) _ 3 ?hg (N := 14) ?hd (xs := ([0] : List Int)) (inner := [.int .i64 0]) (ok := fun _ => True) (okp := fun _ => True) ?hr ?hp (fun _ hk => hk) trivial (Below.refl _ _) (Nat.le_refl _) (by simp) ?_; (case hd => rfl); (case hg => rfl); (case hr => first | (go_simp; done) | (go_simp; rfl)); (case hp => exact (Reps.one (show Kd.M (Kd.int .i64) _ _ _ 0 [.int .i64 0] from rfl) (Reps.none _ _))); intro v429 w3 ho4 hb hg_ hnew_; clear hg_ hnew_; (first | rw [← Ny428.out] at ho4 | (simp only [Int.reduceToNat] at ho4; rw [← Ny428.out] at ho4)); have n0_ := Aside0.mk (Kd.R_lower ho4 (below_size chB)); have n1_ := Aside0.mk (below_step chB hb); clear HB; have HO430 := n0_; have HB := n1_; clear n0_ n1_; clear hb ho4))
  repeat (go_quiet (fail); try go_wp2)
  go_ret2
  exact ⟨_, _, chE, by first | exact Kd.R_nil _ _ _ _ _ | exact Kd.N_nil _ _ _ _ _ | exact Kd.V_nil _ _ _ _ _ | exact Kd.Q_nil _ _ _ _ _ | exact Kd.S_nil _ _ _ _ _, by (with_reducible repeat (first | apply Kd.R_alloc | apply Kd.R_drewN | apply Kd.R_drew)); exact HO430.out, chB⟩
 ·rw [if_neg c2] at H
  have c2b0 : decide (3000 < (a0.size : Int)) = false := decide_eq_false c2
  have c2b1 : decide (3000 < a0.size) = false := decide_eq_false (by omega)
  clear c2
  replace H := Option.bind_eq_some_iff.mp H
  obtain ⟨t431, A50, H⟩ := H
  replace H : (if (t431.length : Int) > 100 then (some (([] : List (S35)), (([0] : List Int)))) else (spec_ParseScrape.l0 k t431 (([] : List (S35))) (([] : List Int)) 0)) = some (r1, r2) := H
  have A5 := Aside0.mk A50
  clear A50
  by_cases c6 : (t431.length : Int) > 100
  ·rw [if_pos c6] at H
   have c6b0 : decide (100 < (t431.length : Int)) = true := decide_eq_true c6
   have c6b1 : decide (100 < t431.length) = true := decide_eq_true (by omega)
   clear c6
   obtain ⟨y434, hy434⟩ : ∃ y_ : List Int, y_ = (([0] : List Int)) := ⟨_, rfl⟩
   replace H : (some (([] : List (S35)), y434)) = some (r1, r2) := by first | (rw [hy434]; with_reducible exact H) | (have H2_ := (Option.bind_some _ _).symm.trans H; rw [hy434]; with_reducible exact H2_) | (have H2_ := (Option.bind_some _ _).symm.trans H; with_reducible exact H2_) | with_reducible exact H | (rw [hy434]; exact H) | exact H
   have Ny434 := Aside0.mk hy434
   clear hy434
   simp only [Option.some.injEq, Prod.mk.injEq] at H
   obtain ⟨rfl, rfl⟩ := H
   go_enter Tryz.func12, Tryz.ntmps12
   go_wp2_with (first | (go_at_call 31; (with_reducible refine (spec_l02Lines.calls k a0 t431 _ A5.out).mono ?_); rintro e w7 ⟨v432, rfl, ho0, hb⟩; have n0_ := Aside0.mk (Kd.R_lower ho0 (below_size chB)); have n1_ := Aside0.mk (below_step chB hb); clear HB; have HO433 := n0_; have HB := n1_; clear n0_ n1_; (try clear hb); (try clear hb2); (try clear hk); (try clear hi); (try clear ho0); obtain ⟨Ao8, co8, eo8⟩ := Kd.R_slice HO433.out; subst eo8) | ((with_reducible refine gate_dst (N := 20) rfl ?_); refine Kd.R_lit (Kd.int .i64) _ 3 ?hg (N := 20) ?hd (xs := ([0] : List Int)) (inner := [.int .i64 0]) (ok := fun _ => True) (okp := fun _ => True) ?hr ?hp (fun _ hk => hk) trivial (Below.refl _ _) (Nat.le_refl _) (by simp) ?_; (case hd => rfl); (case hg => rfl); (case hr => first | (go_simp; done) | (go_simp; rfl)); (case hp => exact (Reps.one (show Kd.M (Kd.int .i64) _ _ _ 0 [.int .i64 0] from rfl) (Reps.none _ _))); intro v435 w9 ho10 hb hg_ hnew_; clear hg_ hnew_; (first | rw [← Ny434.out] at ho10 | (simp only [Int.reduceToNat] at ho10; rw [← Ny434.out] at ho10)); have n0_ := Aside0.mk (Kd.R_below (chR HO433.out) hb); have n1_ := Aside0.mk (Kd.R_lower ho10 (below_size chB)); have n2_ := Aside0.mk (below_step chB hb); clear HO433; clear HB; have HO433 := n0_; have HO436 := n1_; have HB := n2_; clear n0_ n1_ n2_; clear hb ho10))
   repeat (go_quiet (fail); try go_wp2)
   go_ret2
   exact ⟨_, _, chE, by first | exact Kd.R_nil _ _ _ _ _ | exact Kd.N_nil _ _ _ _ _ | exact Kd.V_nil _ _ _ _ _ | exact Kd.Q_nil _ _ _ _ _ | exact Kd.S_nil _ _ _ _ _, by (with_reducible repeat (first | apply Kd.R_alloc | apply Kd.R_drewN | apply Kd.R_drew)); exact HO436.out, chB⟩
  ·rw [if_neg c6] at H
   have c6b0 : decide (100 < (t431.length : Int)) = false := decide_eq_false c6
   have c6b1 : decide (100 < t431.length) = false := decide_eq_false (by omega)
   clear c6
   obtain ⟨y437, hy437⟩ : ∃ y_ : List (S35), y_ = (([] : List (S35))) := ⟨_, rfl⟩
   replace H : (spec_ParseScrape.l0 k t431 y437 (([] : List Int)) 0) = some (r1, r2) := by first | (rw [hy437]; with_reducible exact H) | (have H2_ := (Option.bind_some _ _).symm.trans H; rw [hy437]; with_reducible exact H2_) | (have H2_ := (Option.bind_some _ _).symm.trans H; with_reducible exact H2_) | with_reducible exact H | (rw [hy437]; exact H) | exact H
   have Ny437 := Aside0.mk hy437
   clear hy437
   obtain ⟨y440, hy440⟩ : ∃ y_ : List Int, y_ = (([] : List Int)) := ⟨_, rfl⟩
   replace H : (spec_ParseScrape.l0 k t431 y437 y440 0) = some (r1, r2) := by first | (rw [hy440]; with_reducible exact H) | (have H2_ := (Option.bind_some _ _).symm.trans H; rw [hy440]; with_reducible exact H2_) | (have H2_ := (Option.bind_some _ _).symm.trans H; with_reducible exact H2_) | with_reducible exact H | (rw [hy440]; exact H) | exact H
   have Ny440 := Aside0.mk hy440
   clear hy440
   have H' := Aside0.mk H
   clear H
   go_enter Tryz.func12, Tryz.ntmps12
   go_wp2_with (first | (go_at_call 31; (with_reducible refine (spec_l02Lines.calls k a0 t431 _ A5.out).mono ?_); rintro e w11 ⟨v432, rfl, ho0, hb⟩; have n0_ := Aside0.mk (Kd.R_lower ho0 (below_size chB)); have n1_ := Aside0.mk (below_step chB hb); clear HB; have HO433 := n0_; have HB := n1_; clear n0_ n1_; (try clear hb); (try clear hb2); (try clear hk); (try clear hi); (try clear ho0); obtain ⟨Ao12, co12, eo12⟩ := Kd.R_slice HO433.out; subst eo12) | ((with_reducible refine gate_dst (N := 21) rfl ?_); refine Kd.R_lit k35 _ 35 ?hg (N := 21) ?hd (xs := ([] : List (S35))) (inner := []) (ok := fun _ => True) (okp := fun _ => True) ?hr ?hp (fun _ hk => hk) trivial (Below.refl _ _) (Nat.le_refl _) (by simp) ?_; (case hd => rfl); (case hg => rfl); (case hr => first | (go_simp; done) | (go_simp; rfl)); (case hp => exact (Reps.none _ _)); intro v438 w13 ho14 hb hg_ hnew_; clear hg_ hnew_; (first | rw [← Ny437.out] at ho14 | (simp only [Int.reduceToNat] at ho14; rw [← Ny437.out] at ho14)); have n0_ := Aside0.mk (Kd.R_below (chR HO433.out) hb); have n1_ := Aside0.mk (Kd.R_lower ho14 (below_size chB)); have n2_ := Aside0.mk (below_step chB hb); clear HO433; clear HB; have HO433 := n0_; have HO439 := n1_; have HB := n2_; clear n0_ n1_ n2_; clear hb ho14) | ((with_reducible refine gate_dst (N := 22) rfl ?_); refine Kd.R_lit (Kd.int .i64) _ 3 ?hg (N := 22) ?hd (xs := ([] : List Int)) (inner := []) (ok := fun _ => True) (okp := fun _ => True) ?hr ?hp (fun _ hk => hk) trivial (Below.refl _ _) (Nat.le_refl _) (by simp) ?_; (case hd => rfl); (case hg => rfl); (case hr => first | (go_simp; done) | (go_simp; rfl)); (case hp => exact (Reps.none _ _)); intro v441 w15 ho16 hb hg_ hnew_; clear hg_ hnew_; (first | rw [← Ny440.out] at ho16 | (simp only [Int.reduceToNat] at ho16; rw [← Ny440.out] at ho16)); have n0_ := Aside0.mk (Kd.R_below (chR HO433.out) hb); have n1_ := Aside0.mk (Kd.R_below (chR HO439.out) hb); have n2_ := Aside0.mk (Kd.R_lower ho16 (below_size chB)); have n3_ := Aside0.mk (below_step chB hb); clear HO433; clear HO439; clear HB; have HO433 := n0_; have HO439 := n1_; have HO442 := n2_; have HB := n3_; clear n0_ n1_ n2_ n3_; clear hb ho16))
   repeat (go_quiet (fail); try go_wp2)
   go_loopg [5, 6, 7] k (fun kq v5 v6 v7 w' => ∃ (x5_1 : List (S35)) (x6_1 : List Int) (x7_1 : Int), v7 = .int .i64 x7_1 ∧ Aside0 (spec_ParseScrape.l0 kq t431 x5_1 x6_1 x7_1 = some (r1, r2)) ∧ Aside0 (kq ≤ k) ∧ Aside0 (Kd.R Kd.string 9 w' w.heap.size (fun _ => True) (.slice Ao12 t431.length co12) t431) ∧ Aside0 (Kd.R k35 35 w' w.heap.size (fun _ => True) v5 x5_1) ∧ Aside0 (Kd.R (Kd.int .i64) 3 w' w.heap.size (fun _ => True) v6 x6_1) ∧ Aside0 (Below w.heap.size w w'))
   case atStart => exact ⟨(y437), (y440), (0), (by first | rfl | (simp; done) | (simp [*]; done)), H', ⟨Nat.le_refl _⟩, ⟨by (with_reducible repeat (first | apply Kd.R_alloc | apply Kd.R_drewN | apply Kd.R_drew)); exact HO433.out⟩, ⟨by (with_reducible repeat (first | apply Kd.R_alloc | apply Kd.R_drewN | apply Kd.R_drew)); exact HO439.out⟩, ⟨by (with_reducible repeat (first | apply Kd.R_alloc | apply Kd.R_drewN | apply Kd.R_drew)); exact HO442.out⟩, ⟨chB⟩⟩
   case round =>
    clear H'
    try clear c1
    try clear c2
    try clear c2b0
    try clear c2b1
    try clear p2
    try clear c6
    try clear c6b0
    try clear c6b1
    try clear c12
    obtain ⟨x5_1, x6_1, x7_1, rfl, HA, HK1, HO_4, HO_5, HO_6, HB⟩ := hrel
    cases gk with
    | zero => exact absurd HA.out (by simp [spec_ParseScrape.l0])
    | succ k1 =>
     have H := HA.out
     clear HA
     simp only [spec_ParseScrape.l0] at H
     by_cases c17 : x7_1 < (t431.length : Int)
     ·rw [if_pos c17] at H
      have c17b0 : decide (x7_1 < (t431.length : Int)) = true := decide_eq_true c17
      clear c17
      have HC18 := Aside0.mk H
      clear H
      go_upto_region 11 with (fail)
      repeat (go_quiet (fail); try go_wp2)
      go_cut [41] (fun v41 wc => ∃ (kq : Nat) (x41_17 : Bool), v41 = .bool x41_17 ∧ Aside0 (spec_ParseScrape.j1 kq t431 x5_1 x6_1 x7_1 x41_17 = some (r1, r2)) ∧ Aside0 (kq ≤ k1) ∧ Aside0 (Kd.R Kd.string 9 wc w.heap.size (fun _ => True) (.slice Ao12 t431.length co12) t431) ∧ Aside0 (Kd.R k35 35 wc w.heap.size (fun _ => True) u5 x5_1) ∧ Aside0 (Kd.R (Kd.int .i64) 3 wc w.heap.size (fun _ => True) u6 x6_1) ∧ Aside0 (Below w.heap.size w wc))
      case first =>
       have H := HC18.out
       clear HC18
       by_cases c19 : 0 ≤ x7_1
       ·rw [if_pos c19] at H
        have c19b0 : decide (0 ≤ x7_1) = true := decide_eq_true c19
        clear c19
        (first | rw [c19b0] | (simp only [i64_w, i32_w]; rw [c19b0]) | skip)
        by_cases c20 : (rdOf ByteArray.empty t431 x7_1).toList = ([] : List UInt8)
        ·rw [if_pos c20] at H
         have c20b0 : ((rdOf ByteArray.empty t431 x7_1).toList == ([] : List UInt8)) = true := beq_iff_eq.mpr c20
         have c20b1 : ((rdOf ByteArray.empty t431 x7_1).toList != ([] : List UInt8)) = false := bne_eq_false_iff_eq.mpr c20
         clear c20
         have H' := Aside0.mk H
         clear H
         have p443 : 0 ≤ (x7_1 : Int) := of_decide_eq_true chA
         have q443 : x7_1 < (t431.length : Int) := of_decide_eq_true chA
         obtain ⟨ad443, e443, hx443_0⟩ := Kd.at_string (Kd.R_reads' HO_4.out).2.2 x7_1 p443 q443
         cases e443
         replace p443 := eq_true p443
         replace q443 := eq_true q443
         go_wp2
         repeat (go_quiet (fail); try go_wp2)
         go_meet
         case rel => exact ⟨_, (true), (by first | rfl | (simp; done) | (simp [*]; done)), H', ⟨by have := HK1.out; first | omega | exact Nat.le_refl _⟩, ⟨by (with_reducible repeat (first | apply Kd.R_alloc | apply Kd.R_drewN | apply Kd.R_drew)); exact HO_4.out⟩, ⟨by (with_reducible repeat (first | apply Kd.R_alloc | apply Kd.R_drewN | apply Kd.R_drew)); exact HO_5.out⟩, ⟨by (with_reducible repeat (first | apply Kd.R_alloc | apply Kd.R_drewN | apply Kd.R_drew)); exact HO_6.out⟩, ⟨chB⟩⟩
        ·rw [if_neg c20] at H
         have c20b0 : ((rdOf ByteArray.empty t431 x7_1).toList == ([] : List UInt8)) = false := beq_eq_false_iff_ne.mpr c20
         have c20b1 : ((rdOf ByteArray.empty t431 x7_1).toList != ([] : List UInt8)) = true := bne_iff_ne.mpr c20
         by_cases c21 : 0 < ((rdOf ByteArray.empty t431 x7_1).size : Int)
         ·rw [if_pos c21] at H
          have c21b0 : decide (0 < ((rdOf ByteArray.empty t431 x7_1).size : Int)) = true := decide_eq_true c21
          have c21b1 : decide (0 < (rdOf ByteArray.empty t431 x7_1).size) = true := decide_eq_true (by omega)
          clear c21
          have H' := Aside0.mk H
          clear H
          have p443 : 0 ≤ (x7_1 : Int) := of_decide_eq_true chA
          have q443 : x7_1 < (t431.length : Int) := of_decide_eq_true chA
          obtain ⟨ad443, e443, hx443_0⟩ := Kd.at_string (Kd.R_reads' HO_4.out).2.2 x7_1 p443 q443
          cases e443
          replace p443 := eq_true p443
          replace q443 := eq_true q443
          have p444 : 0 ≤ (x7_1 : Int) := of_decide_eq_true chA
          have q444 : x7_1 < (t431.length : Int) := of_decide_eq_true chA
          obtain ⟨ad444, e444, hx444_0⟩ := Kd.at_string (Kd.R_reads' HO_4.out).2.2 x7_1 p444 q444
          obtain rfl : ad443 = ad444 := (by injection e444)
          replace p444 := eq_true p444
          replace q444 := eq_true q444
          have p22 : 0 ≤ (0 : Int) := (by omega)
          have q22 : 0 < (rdOf ByteArray.empty t431 x7_1).size := (by have : (0 : Int) < ((rdOf ByteArray.empty t431 x7_1).size : Int) := of_decide_eq_true chA; omega)
          have hx22 : ∀ h : 0 < (rdOf ByteArray.empty t431 x7_1).size, (((rdOf ByteArray.empty t431 x7_1)[0]'h).toNat : Int) = bt (rdOf ByteArray.empty t431 x7_1) 0 := bt_at (rdOf ByteArray.empty t431 x7_1) 0
          clear p22
          have qi22 : (0 < ((rdOf ByteArray.empty t431 x7_1).size : Int)) = True := eq_true (of_decide_eq_true chA)
          replace q22 := eq_true q22
          go_wp2
          repeat (go_quiet (fail); try go_wp2)
          go_meet
          case rel => exact ⟨_, (((bt (rdOf ByteArray.empty t431 x7_1) 0) == 35)), (by first | rfl | (simp; done) | (simp [*]; done)), H', ⟨by have := HK1.out; first | omega | exact Nat.le_refl _⟩, ⟨by (with_reducible repeat (first | apply Kd.R_alloc | apply Kd.R_drewN | apply Kd.R_drew)); exact HO_4.out⟩, ⟨by (with_reducible repeat (first | apply Kd.R_alloc | apply Kd.R_drewN | apply Kd.R_drew)); exact HO_5.out⟩, ⟨by (with_reducible repeat (first | apply Kd.R_alloc | apply Kd.R_drewN | apply Kd.R_drew)); exact HO_6.out⟩, ⟨chB⟩⟩
         ·rw [if_neg c21] at H
          exact absurd H (by simp)
       ·rw [if_neg c19] at H
        exact absurd H (by simp)
      case rest =>
       clear HC18
       try clear c1
       try clear c2
       try clear c2b0
       try clear c2b1
       try clear p2
       try clear q2
       try clear hx2
       try clear qi2
       try clear p4
       try clear q4
       try clear hx4
       try clear c6
       try clear c6b0
       try clear c6b1
       try clear c12
       try clear c17
       try clear c17b0
       try clear c19
       try clear c19b0
       try clear c20
       try clear c20b0
       try clear c20b1
       try clear c21
       try clear c21b0
       try clear c21b1
       try clear p22
       try clear q22
       try clear hx22
       try clear qi22
       try clear hx443_0
       try clear hx444_0
       try clear p2
       try clear p22
       try clear p443
       try clear p444
       try clear q22
       try clear q443
       try clear q444
       obtain ⟨kq, x41_17, rfl, HA, HJ17, HO_4, HO_5, HO_6, HB⟩ := hcut
       cases kq with
       | zero => exact absurd HA.out (by simp [spec_ParseScrape.j1])
       | succ kj17 =>
        have H := HA.out
        clear HA
        simp only [spec_ParseScrape.j1] at H
        by_cases c23 : x41_17 = true
        ·subst c23
         have H1 : (spec_ParseScrape.l0 kj17 t431 x5_1 x6_1 (wrap64 (x7_1 + 1))) = some (r1, r2) := by rw [if_pos rfl] at H; exact H
         clear H
         have H := H1
         clear H1
         have H' := Aside0.mk H
         clear H
         go_wp2
         repeat (go_quiet (fail); try go_wp2)
         go_roundg kj17
         case measure => have := HK1.out; have := HJ17.out; omega
         case rel => exact ⟨(x5_1), (x6_1), (wrap64 (x7_1 + 1)), (by first | rfl | (simp; done) | (simp [*]; done)), H', ⟨by have := HK1.out; have := HJ17.out; omega⟩, ⟨by (with_reducible repeat (first | apply Kd.R_alloc | apply Kd.R_drewN | apply Kd.R_drew)); exact HO_4.out⟩, ⟨by (with_reducible repeat (first | apply Kd.R_alloc | apply Kd.R_drewN | apply Kd.R_drew)); exact HO_5.out⟩, ⟨by (with_reducible repeat (first | apply Kd.R_alloc | apply Kd.R_drewN | apply Kd.R_drew)); exact HO_6.out⟩, ⟨chB⟩⟩
        ·replace c23 := Bool.eq_false_iff.mpr c23
         subst c23
         have H1 : (if 0 ≤ x7_1 then (if x7_1 < (t431.length : Int) then ((spec_ParseSample.f kj17 (rdOf ByteArray.empty t431 x7_1)).bind fun bt446 => (spec_ParseScrape.l1 kj17 t431 x5_1 x6_1 x7_1 bt446.2.2.2.2 0 bt446.1 bt446.2.1 bt446.2.2.1 bt446.2.2.2.1)) else (none)) else (none)) = some (r1, r2) := by rw [if_neg (show ¬ (false = true) by decide)] at H; exact H
         clear H
         have H := H1
         clear H1
         by_cases c24 : 0 ≤ x7_1
         ·rw [if_pos c24] at H
          have c24b0 : decide (0 ≤ x7_1) = true := decide_eq_true c24
          clear c24
          by_cases c25 : x7_1 < (t431.length : Int)
          ·rw [if_pos c25] at H
           have c25b0 : decide (x7_1 < (t431.length : Int)) = true := decide_eq_true c25
           clear c25
           replace H := Option.bind_eq_some_iff.mp H
           obtain ⟨⟨t446, t447, t448, t449, t450⟩, A260, H⟩ := H
           replace H : (spec_ParseScrape.l1 kj17 t431 x5_1 x6_1 x7_1 t450 0 t446 t447 t448 t449) = some (r1, r2) := H
           have A26 := Aside0.mk A260
           clear A260
           have H' := Aside0.mk H
           clear H
           have p445 : 0 ≤ (x7_1 : Int) := of_decide_eq_true chA
           have q445 : x7_1 < (t431.length : Int) := of_decide_eq_true chA
           obtain ⟨ad445, e445, hx445_0⟩ := Kd.at_string (Kd.R_reads' HO_4.out).2.2 x7_1 p445 q445
           cases e445
           replace p445 := eq_true p445
           replace q445 := eq_true q445
           go_wp2_with (first | (go_at_call 32; (with_reducible refine (spec_ParseSample.calls kj17 (rdOf ByteArray.empty t431 x7_1) t446 t447 t448 t449 t450 _ A26.out).mono ?_); rintro e w27 ⟨rfl, hb⟩; have n0_ := Aside0.mk (Kd.R_below (chR HO_4.out) hb); have n1_ := Aside0.mk (Kd.R_below (chR HO_5.out) hb); have n2_ := Aside0.mk (Kd.R_below (chR HO_6.out) hb); have n3_ := Aside0.mk (below_step chB hb); clear HO_4; clear HO_5; clear HO_6; clear HB; have HO_4 := n0_; have HO_5 := n1_; have HO_6 := n2_; have HB := n3_; clear n0_ n1_ n2_ n3_; (try clear hb); (try clear hb2); (try clear hk); (try clear hi)) | ((with_reducible refine gate_dst (N := 8) rfl ?_); refine box_event ?hg (N := 8) ?hd (cs := #[.string (⟨#[]⟩ : ByteArray), .string (⟨#[]⟩ : ByteArray), .int .i64 0, .int .i64 0]) (t := 35) ?hr ?_; (case hd => rfl); (case hg => rfl); (case hr => first | (go_simp; done) | (go_simp; rfl)); intro gb451 hg w28 hbox hb; have n0_ := Aside0.mk (Kd.R_below (chR HO_4.out) hb); have n1_ := Aside0.mk (Kd.R_below (Kd.R_elderB (chR HO_5.out) gb451 (Nat.le_of_eq hg.symm)) hb); have n2_ := Aside0.mk (Kd.R_below (chR HO_6.out) hb); have n3_ := Aside0.mk (below_step chB hb); have n4_ := Aside0.mk (hbox); have n5_ := Aside0.mk ((by rw [hg]; exact (below_size chB) : w.heap.size ≤ gb451)); have n6_ := Aside0.mk ((by rw [hg]; exact (below_size chB) : w.heap.size ≤ gb451)); clear HO_4; clear HO_5; clear HO_6; clear HB; have HO_4 := n0_; have HO_5 := n1_; have HO_6 := n2_; have HB := n3_; have BK451 := n4_; have GW451 := n5_; have GE451 := n6_; clear n0_ n1_ n2_ n3_ n4_ n5_ n6_; clear hb hbox hg; obtain ⟨hcz29_0, hcz29_1, hcz29_2, hcz29_3, hfz29_0, hfz29_1, hfz29_2, hfz29_3⟩ := blk4 BK451.out))
           repeat (go_quiet (fail); try go_wp2)
           go_loopg [9, 10] kj17 (fun kq v9 v10 w' => ∃ (x9_3 : Bool) (x10_3 : Int), v9 = .bool x9_3 ∧ v10 = .int .i64 x10_3 ∧ Aside0 (spec_ParseScrape.l1 kq t431 x5_1 x6_1 x7_1 x9_3 x10_3 t446 t447 t448 t449 = some (r1, r2)) ∧ Aside0 (kq ≤ kj17) ∧ Aside0 (Kd.R Kd.string 9 w' w.heap.size (fun _ => True) (.slice (some ad445) t431.length co12) t431) ∧ Aside0 (Kd.R k35 35 w' w.heap.size (fun k_ => k_ ≠ gb451) u5 x5_1) ∧ Aside0 (Kd.R (Kd.int .i64) 3 w' w.heap.size (fun _ => True) u6 x6_1) ∧ Aside0 (w'.heap[gb451]? = some (.cells #[.string t446, .string t447, .int .i64 t448, .int .i64 t449] 35 (0, 0))) ∧ Aside0 (Below w.heap.size w w'))
           case atStart => exact ⟨(t450), (0), (by first | rfl | (simp; done) | (simp [*]; done)), (by first | rfl | (simp; done) | (simp [*]; done)), H', ⟨Nat.le_refl _⟩, ⟨by (with_reducible repeat (first | apply Kd.R_alloc | apply Kd.R_drewN | apply Kd.R_drew)); exact Kd.R_mono (Kd.R_far (p := ⟨gb451, 3, none⟩) (Kd.R_far (p := ⟨gb451, 2, none⟩) (Kd.R_far (p := ⟨gb451, 1, none⟩) (Kd.R_far (p := ⟨gb451, 0, none⟩) (Kd.R_types HO_4.out BK451.out (by decide)) (fun _ hk => hk.2) (.string t446)) (fun _ hk => hk.2) (.string t447)) (fun _ hk => hk.2) (.int .i64 t448)) (fun _ hk => hk.2) (.int .i64 t449)) (fun _ hk => trivial)⟩, ⟨by (with_reducible repeat (first | apply Kd.R_alloc | apply Kd.R_drewN | apply Kd.R_drew)); exact Kd.R_mono (Kd.R_far (p := ⟨gb451, 3, none⟩) (Kd.R_far (p := ⟨gb451, 2, none⟩) (Kd.R_far (p := ⟨gb451, 1, none⟩) (Kd.R_far (p := ⟨gb451, 0, none⟩) (Kd.R_mono HO_5.out (fun k_ hk => (⟨hk, hk.2⟩ : _ ∧ k_ ≠ gb451))) (fun _ hk => hk.2) (.string t446)) (fun _ hk => hk.2) (.string t447)) (fun _ hk => hk.2) (.int .i64 t448)) (fun _ hk => hk.2) (.int .i64 t449)) (fun _ hk => hk.1.2)⟩, ⟨by (with_reducible repeat (first | apply Kd.R_alloc | apply Kd.R_drewN | apply Kd.R_drew)); exact Kd.R_mono (Kd.R_far (p := ⟨gb451, 3, none⟩) (Kd.R_far (p := ⟨gb451, 2, none⟩) (Kd.R_far (p := ⟨gb451, 1, none⟩) (Kd.R_far (p := ⟨gb451, 0, none⟩) (Kd.R_types HO_6.out BK451.out (by decide)) (fun _ hk => hk.2) (.string t446)) (fun _ hk => hk.2) (.string t447)) (fun _ hk => hk.2) (.int .i64 t448)) (fun _ hk => hk.2) (.int .i64 t449)) (fun _ hk => trivial)⟩, ⟨by (with_reducible repeat (first | refine blk_drewN ?_ _ | refine blk_drew ?_ | refine blk_alloc ?_ _)); refine blk_put (cs := #[.string t446, .string t447, .int .i64 t448, .int .i64 0]) ?_ 3 _ rfl; (with_reducible repeat (first | refine blk_drewN ?_ _ | refine blk_drew ?_ | refine blk_alloc ?_ _)); refine blk_put (cs := #[.string t446, .string t447, .int .i64 0, .int .i64 0]) ?_ 2 _ rfl; (with_reducible repeat (first | refine blk_drewN ?_ _ | refine blk_drew ?_ | refine blk_alloc ?_ _)); refine blk_put (cs := #[.string t446, .string (⟨#[]⟩ : ByteArray), .int .i64 0, .int .i64 0]) ?_ 1 _ rfl; (with_reducible repeat (first | refine blk_drewN ?_ _ | refine blk_drew ?_ | refine blk_alloc ?_ _)); refine blk_put (cs := #[.string (⟨#[]⟩ : ByteArray), .string (⟨#[]⟩ : ByteArray), .int .i64 0, .int .i64 0]) ?_ 0 _ rfl; (with_reducible repeat (first | refine blk_drewN ?_ _ | refine blk_drew ?_ | refine blk_alloc ?_ _)); exact BK451.out⟩, ⟨chG⟩⟩
           case round =>
            clear H'
            try clear c1
            try clear c2
            try clear c2b0
            try clear c2b1
            try clear p2
            try clear q2
            try clear hx2
            try clear qi2
            try clear p4
            try clear q4
            try clear hx4
            try clear c6
            try clear c6b0
            try clear c6b1
            try clear p6
            try clear c12
            try clear c17
            try clear c17b0
            try clear c19
            try clear c19b0
            try clear c20
            try clear c20b0
            try clear c20b1
            try clear c21
            try clear c21b0
            try clear c21b1
            try clear p22
            try clear q22
            try clear hx22
            try clear qi22
            try clear c23
            try clear c24
            try clear c24b0
            try clear c25
            try clear c25b0
            try clear hcz29_0
            try clear hcz29_1
            try clear hcz29_2
            try clear hcz29_3
            try clear hfz29_0
            try clear hfz29_1
            try clear hfz29_2
            try clear hfz29_3
            try clear hx443_0
            try clear hx444_0
            try clear hx445_0
            try clear p2
            try clear p22
            try clear p4
            try clear p443
            try clear p444
            try clear p445
            try clear q2
            try clear q22
            try clear q4
            try clear q443
            try clear q444
            try clear q445
            obtain ⟨x9_3, x10_3, rfl, rfl, HA, HK3, HO_4, HO_5, HO_6, BK451, HB⟩ := hrel
            cases gk with
            | zero => exact absurd HA.out (by simp [spec_ParseScrape.l1])
            | succ k3 =>
             have H := HA.out
             clear HA
             simp only [spec_ParseScrape.l1] at H
             by_cases c30 : x10_3 < (x5_1.length : Int)
             ·rw [if_pos c30] at H
              have c30b0 : decide (x10_3 < (x5_1.length : Int)) = true := decide_eq_true c30
              clear c30
              by_cases c31 : 0 ≤ x10_3
              ·rw [if_pos c31] at H
               have c31b0 : decide (0 ≤ x10_3) = true := decide_eq_true c31
               clear c31
               by_cases c32 : ((rd_T35 x5_1 x10_3).f0).toList = t446.toList
               ·rw [if_pos c32] at H
                have c32b0 : (((rd_T35 x5_1 x10_3).f0).toList == t446.toList) = true := beq_iff_eq.mpr c32
                have c32b1 : (((rd_T35 x5_1 x10_3).f0).toList != t446.toList) = false := bne_eq_false_iff_eq.mpr c32
                clear c32
                by_cases c33 : ((rd_T35 x5_1 x10_3).f1).toList = t447.toList
                ·rw [if_pos c33] at H
                 have c33b0 : (((rd_T35 x5_1 x10_3).f1).toList == t447.toList) = true := beq_iff_eq.mpr c33
                 have c33b1 : (((rd_T35 x5_1 x10_3).f1).toList != t447.toList) = false := bne_eq_false_iff_eq.mpr c33
                 clear c33
                 by_cases c34 : ((rd_T35 x5_1 x10_3).f3) = t449
                 ·rw [if_pos c34] at H
                  have c34b0 : (((rd_T35 x5_1 x10_3).f3) == t449) = true := beq_iff_eq.mpr c34
                  have c34b1 : (((rd_T35 x5_1 x10_3).f3) != t449) = false := bne_eq_false_iff_eq.mpr c34
                  clear c34
                  have H' := Aside0.mk H
                  clear H
                  obtain ⟨Ao35, co35, eo35⟩ := Kd.R_slice HO_5.out
                  subst eo35
                  have p452 : 0 ≤ (x10_3 : Int) := of_decide_eq_true chA
                  have q452 : x10_3 < (x5_1.length : Int) := of_decide_eq_true chA
                  obtain ⟨ad452, e452, hx452_0, hx452_1, hx452_2, hx452_3⟩ := at_T35 (Kd.R_reads' HO_5.out).2.2 x10_3 p452 q452
                  cases e452
                  replace p452 := eq_true p452
                  replace q452 := eq_true q452
                  obtain ⟨hcz36_0, hcz36_1, hcz36_2, hcz36_3, hfz36_0, hfz36_1, hfz36_2, hfz36_3⟩ := blk4 BK451.out
                  have p453 : 0 ≤ (x10_3 : Int) := of_decide_eq_true chA
                  have q453 : x10_3 < (x5_1.length : Int) := of_decide_eq_true chA
                  obtain ⟨ad453, e453, hx453_0, hx453_1, hx453_2, hx453_3⟩ := at_T35 (Kd.R_reads' HO_5.out).2.2 x10_3 p453 q453
                  obtain rfl : ad452 = ad453 := (by injection e453)
                  replace p453 := eq_true p453
                  replace q453 := eq_true q453
                  have p454 : 0 ≤ (x10_3 : Int) := of_decide_eq_true chA
                  have q454 : x10_3 < (x5_1.length : Int) := of_decide_eq_true chA
                  obtain ⟨ad454, e454, hx454_0, hx454_1, hx454_2, hx454_3⟩ := at_T35 (Kd.R_reads' HO_5.out).2.2 x10_3 p454 q454
                  obtain rfl : ad452 = ad454 := (by injection e454)
                  replace p454 := eq_true p454
                  replace q454 := eq_true q454
                  go_wp2
                  repeat (go_quiet (fail); try go_wp2)
                  go_roundg k3
                  case measure => have := HK1.out; have := HJ17.out; have := HK3.out; omega
                  case rel => exact ⟨(false), (wrap64 (x10_3 + 1)), (by first | rfl | (simp; done) | (simp [*]; done)), (by first | rfl | (simp; done) | (simp [*]; done)), H', ⟨by have := HK1.out; have := HJ17.out; have := HK3.out; omega⟩, ⟨by (with_reducible repeat (first | apply Kd.R_alloc | apply Kd.R_drewN | apply Kd.R_drew)); exact HO_4.out⟩, ⟨by (with_reducible repeat (first | apply Kd.R_alloc | apply Kd.R_drewN | apply Kd.R_drew)); exact HO_5.out⟩, ⟨by (with_reducible repeat (first | apply Kd.R_alloc | apply Kd.R_drewN | apply Kd.R_drew)); exact HO_6.out⟩, ⟨by (with_reducible repeat (first | refine blk_drewN ?_ _ | refine blk_drew ?_ | refine blk_alloc ?_ _)); exact BK451.out⟩, ⟨chG⟩⟩
                 ·rw [if_neg c34] at H
                  have c34b0 : (((rd_T35 x5_1 x10_3).f3) == t449) = false := beq_eq_false_iff_ne.mpr c34
                  have c34b1 : (((rd_T35 x5_1 x10_3).f3) != t449) = true := bne_iff_ne.mpr c34
                  have H' := Aside0.mk H
                  clear H
                  obtain ⟨Ao37, co37, eo37⟩ := Kd.R_slice HO_5.out
                  subst eo37
                  have p452 : 0 ≤ (x10_3 : Int) := of_decide_eq_true chA
                  have q452 : x10_3 < (x5_1.length : Int) := of_decide_eq_true chA
                  obtain ⟨ad452, e452, hx452_0, hx452_1, hx452_2, hx452_3⟩ := at_T35 (Kd.R_reads' HO_5.out).2.2 x10_3 p452 q452
                  cases e452
                  replace p452 := eq_true p452
                  replace q452 := eq_true q452
                  obtain ⟨hcz38_0, hcz38_1, hcz38_2, hcz38_3, hfz38_0, hfz38_1, hfz38_2, hfz38_3⟩ := blk4 BK451.out
                  have p453 : 0 ≤ (x10_3 : Int) := of_decide_eq_true chA
                  have q453 : x10_3 < (x5_1.length : Int) := of_decide_eq_true chA
                  obtain ⟨ad453, e453, hx453_0, hx453_1, hx453_2, hx453_3⟩ := at_T35 (Kd.R_reads' HO_5.out).2.2 x10_3 p453 q453
                  obtain rfl : ad452 = ad453 := (by injection e453)
                  replace p453 := eq_true p453
                  replace q453 := eq_true q453
                  have p454 : 0 ≤ (x10_3 : Int) := of_decide_eq_true chA
                  have q454 : x10_3 < (x5_1.length : Int) := of_decide_eq_true chA
                  obtain ⟨ad454, e454, hx454_0, hx454_1, hx454_2, hx454_3⟩ := at_T35 (Kd.R_reads' HO_5.out).2.2 x10_3 p454 q454
                  obtain rfl : ad452 = ad454 := (by injection e454)
                  replace p454 := eq_true p454
                  replace q454 := eq_true q454
                  go_wp2
                  repeat (go_quiet (fail); try go_wp2)
                  go_roundg k3
                  case measure => have := HK1.out; have := HJ17.out; have := HK3.out; omega
                  case rel => exact ⟨(x9_3), (wrap64 (x10_3 + 1)), (by first | rfl | (simp; done) | (simp [*]; done)), (by first | rfl | (simp; done) | (simp [*]; done)), H', ⟨by have := HK1.out; have := HJ17.out; have := HK3.out; omega⟩, ⟨by (with_reducible repeat (first | apply Kd.R_alloc | apply Kd.R_drewN | apply Kd.R_drew)); exact HO_4.out⟩, ⟨by (with_reducible repeat (first | apply Kd.R_alloc | apply Kd.R_drewN | apply Kd.R_drew)); exact HO_5.out⟩, ⟨by (with_reducible repeat (first | apply Kd.R_alloc | apply Kd.R_drewN | apply Kd.R_drew)); exact HO_6.out⟩, ⟨by (with_reducible repeat (first | refine blk_drewN ?_ _ | refine blk_drew ?_ | refine blk_alloc ?_ _)); exact BK451.out⟩, ⟨chG⟩⟩
                ·rw [if_neg c33] at H
                 have c33b0 : (((rd_T35 x5_1 x10_3).f1).toList == t447.toList) = false := beq_eq_false_iff_ne.mpr c33
                 have c33b1 : (((rd_T35 x5_1 x10_3).f1).toList != t447.toList) = true := bne_iff_ne.mpr c33
                 have H' := Aside0.mk H
                 clear H
                 obtain ⟨Ao39, co39, eo39⟩ := Kd.R_slice HO_5.out
                 subst eo39
                 have p452 : 0 ≤ (x10_3 : Int) := of_decide_eq_true chA
                 have q452 : x10_3 < (x5_1.length : Int) := of_decide_eq_true chA
                 obtain ⟨ad452, e452, hx452_0, hx452_1, hx452_2, hx452_3⟩ := at_T35 (Kd.R_reads' HO_5.out).2.2 x10_3 p452 q452
                 cases e452
                 replace p452 := eq_true p452
                 replace q452 := eq_true q452
                 obtain ⟨hcz40_0, hcz40_1, hcz40_2, hcz40_3, hfz40_0, hfz40_1, hfz40_2, hfz40_3⟩ := blk4 BK451.out
                 have p453 : 0 ≤ (x10_3 : Int) := of_decide_eq_true chA
                 have q453 : x10_3 < (x5_1.length : Int) := of_decide_eq_true chA
                 obtain ⟨ad453, e453, hx453_0, hx453_1, hx453_2, hx453_3⟩ := at_T35 (Kd.R_reads' HO_5.out).2.2 x10_3 p453 q453
                 obtain rfl : ad452 = ad453 := (by injection e453)
                 replace p453 := eq_true p453
                 replace q453 := eq_true q453
                 go_wp2
                 repeat (go_quiet (fail); try go_wp2)
                 go_roundg k3
                 case measure => have := HK1.out; have := HJ17.out; have := HK3.out; omega
                 case rel => exact ⟨(x9_3), (wrap64 (x10_3 + 1)), (by first | rfl | (simp; done) | (simp [*]; done)), (by first | rfl | (simp; done) | (simp [*]; done)), H', ⟨by have := HK1.out; have := HJ17.out; have := HK3.out; omega⟩, ⟨by (with_reducible repeat (first | apply Kd.R_alloc | apply Kd.R_drewN | apply Kd.R_drew)); exact HO_4.out⟩, ⟨by (with_reducible repeat (first | apply Kd.R_alloc | apply Kd.R_drewN | apply Kd.R_drew)); exact HO_5.out⟩, ⟨by (with_reducible repeat (first | apply Kd.R_alloc | apply Kd.R_drewN | apply Kd.R_drew)); exact HO_6.out⟩, ⟨by (with_reducible repeat (first | refine blk_drewN ?_ _ | refine blk_drew ?_ | refine blk_alloc ?_ _)); exact BK451.out⟩, ⟨chG⟩⟩
               ·rw [if_neg c32] at H
                have c32b0 : (((rd_T35 x5_1 x10_3).f0).toList == t446.toList) = false := beq_eq_false_iff_ne.mpr c32
                have c32b1 : (((rd_T35 x5_1 x10_3).f0).toList != t446.toList) = true := bne_iff_ne.mpr c32
                have H' := Aside0.mk H
                clear H
                obtain ⟨Ao41, co41, eo41⟩ := Kd.R_slice HO_5.out
                subst eo41
                have p452 : 0 ≤ (x10_3 : Int) := of_decide_eq_true chA
                have q452 : x10_3 < (x5_1.length : Int) := of_decide_eq_true chA
                obtain ⟨ad452, e452, hx452_0, hx452_1, hx452_2, hx452_3⟩ := at_T35 (Kd.R_reads' HO_5.out).2.2 x10_3 p452 q452
                cases e452
                replace p452 := eq_true p452
                replace q452 := eq_true q452
                obtain ⟨hcz42_0, hcz42_1, hcz42_2, hcz42_3, hfz42_0, hfz42_1, hfz42_2, hfz42_3⟩ := blk4 BK451.out
                go_wp2
                repeat (go_quiet (fail); try go_wp2)
                go_roundg k3
                case measure => have := HK1.out; have := HJ17.out; have := HK3.out; omega
                case rel => exact ⟨(x9_3), (wrap64 (x10_3 + 1)), (by first | rfl | (simp; done) | (simp [*]; done)), (by first | rfl | (simp; done) | (simp [*]; done)), H', ⟨by have := HK1.out; have := HJ17.out; have := HK3.out; omega⟩, ⟨by (with_reducible repeat (first | apply Kd.R_alloc | apply Kd.R_drewN | apply Kd.R_drew)); exact HO_4.out⟩, ⟨by (with_reducible repeat (first | apply Kd.R_alloc | apply Kd.R_drewN | apply Kd.R_drew)); exact HO_5.out⟩, ⟨by (with_reducible repeat (first | apply Kd.R_alloc | apply Kd.R_drewN | apply Kd.R_drew)); exact HO_6.out⟩, ⟨by (with_reducible repeat (first | refine blk_drewN ?_ _ | refine blk_drew ?_ | refine blk_alloc ?_ _)); exact BK451.out⟩, ⟨chG⟩⟩
              ·rw [if_neg c31] at H
               exact absurd H (by simp)
             ·rw [if_neg c30] at H
              have c30b0 : decide (x10_3 < (x5_1.length : Int)) = false := decide_eq_false c30
              clear c30
              by_cases c43 : x9_3 = true
              ·subst c43
               have H1 : (if x5_1.length < 2932031007402 then (spec_ParseScrape.l0 k3 t431 (x5_1 ++ [(⟨t446, t447, t448, t449⟩ : S35)]) x6_1 (wrap64 (x7_1 + 1))) else (none)) = some (r1, r2) := by rw [if_pos rfl] at H; exact H
               clear H
               have H := H1
               clear H1
               by_cases c44 : x5_1.length < 2932031007402
               ·rw [if_pos c44] at H
                have LMc44 := Aside0.mk c44
                clear c44
                obtain ⟨y455, hy455⟩ : ∃ y_ : List (S35), y_ = (x5_1 ++ [(⟨t446, t447, t448, t449⟩ : S35)]) := ⟨_, rfl⟩
                replace H : (spec_ParseScrape.l0 k3 t431 y455 x6_1 (wrap64 (x7_1 + 1))) = some (r1, r2) := by first | (rw [hy455]; with_reducible exact H) | (have H2_ := (Option.bind_some _ _).symm.trans H; rw [hy455]; with_reducible exact H2_) | (have H2_ := (Option.bind_some _ _).symm.trans H; with_reducible exact H2_) | with_reducible exact H | (rw [hy455]; exact H) | exact H
                have Ny455 := Aside0.mk hy455
                clear hy455
                have H' := Aside0.mk H
                clear H
                obtain ⟨Ao45, co45, eo45⟩ := Kd.R_slice HO_5.out
                subst eo45
                obtain ⟨hcz46_0, hcz46_1, hcz46_2, hcz46_3, hfz46_0, hfz46_1, hfz46_2, hfz46_3⟩ := blk4 BK451.out
                go_wp2_with (first | ((with_reducible refine gate_builtin (b := .append) (xs := #[.tmp 85, .tmp 87]) rfl ?_); at_builtin; refine Kd.R_append k35 (w0 := w) w.heap.size rfl (.tmp 85) (.tmp 87) 24 35 (.agg #[(.string ⟨#[]⟩), (.string ⟨#[]⟩), (.int .i64 0), (.int .i64 0)]) 48 rfl Tryz.underlying24 info35 rfl (by decide) (by omega) (.slice Ao45 x5_1.length co45) x5_1 (⟨t446, t447, t448, t449⟩ : S35) [.string t446, .string t447, .int .i64 t448, .int .i64 t449] (fun k_ => k_ ≠ gb451) (fun _ => False) rfl rfl ?aP (fun _ hk => hk.elim) ?aF ?aO ?aB ?aS ?aL ?_; (case aP => exact k35_mkM _ _ _ (⟨t446, t447, t448, t449⟩ : S35)); (case aB => exact chG); (case aF => exact (fun k_ hk => Kd.freshB (g := gb451) (o := .cells #[.string t446, .string t447, .int .i64 t448, .int .i64 t449] 35 (0, 0)) (blx BK451.out) k_ hk)); (case aO => exact (chR HO_5.out)); (case aS => exact (below_size chG)); (case aL => have := LMc44.out; omega); intro v456 w47 ho hb hg hat; rw [← Ny455.out] at ho; have n0_ := Aside0.mk (Kd.R_over' (chR HO_4.out) (Kd.R_typed (chR HO_5.out)) (by decide) hg); have n1_ := Aside0.mk (Kd.R_over' (chR HO_6.out) (Kd.R_typed (chR HO_5.out)) (by decide) hg); have n2_ := Aside0.mk (blk_grown (g := gb451) (o := .cells #[.string t446, .string t447, .int .i64 t448, .int .i64 t449] 35 (0, 0)) (blx BK451.out) hg (Kd.R_away HO_5.out (fun _ hk => hk))); have n3_ := Aside0.mk (hb); have n4_ := Aside0.mk (ho); clear HO_4; clear HO_6; clear BK451; clear HB; clear HO_5; have HO_4 := n0_; have HO_6 := n1_; have BK451 := n2_; have HB := n3_; have HO457 := n4_; clear n0_ n1_ n2_ n3_ n4_; clear ho hb hg hat))
                repeat (go_quiet (fail); try go_wp2)
                go_roundg k3
                case measure => have := HK1.out; have := HJ17.out; have := HK3.out; omega
                case rel => exact ⟨(y455), (x6_1), (wrap64 (x7_1 + 1)), (by first | rfl | (simp; done) | (simp [*]; done)), H', ⟨by have := HK1.out; have := HJ17.out; have := HK3.out; omega⟩, ⟨by (with_reducible repeat (first | apply Kd.R_alloc | apply Kd.R_drewN | apply Kd.R_drew)); exact HO_4.out⟩, ⟨by (with_reducible repeat (first | apply Kd.R_alloc | apply Kd.R_drewN | apply Kd.R_drew)); exact Kd.R_mono HO457.out (fun _ hk => trivial)⟩, ⟨by (with_reducible repeat (first | apply Kd.R_alloc | apply Kd.R_drewN | apply Kd.R_drew)); exact HO_6.out⟩, ⟨chG⟩⟩
               ·rw [if_neg c44] at H
                exact absurd H (by simp)
              ·replace c43 := Bool.eq_false_iff.mpr c43
               subst c43
               have H1 : (if x6_1.length < 17592186044416 then (spec_ParseScrape.l0 k3 t431 x5_1 (x6_1 ++ [wrap64 (x7_1 + 1)]) (wrap64 (x7_1 + 1))) else (none)) = some (r1, r2) := by rw [if_neg (show ¬ (false = true) by decide)] at H; exact H
               clear H
               have H := H1
               clear H1
               by_cases c48 : x6_1.length < 17592186044416
               ·rw [if_pos c48] at H
                have LMc48 := Aside0.mk c48
                clear c48
                obtain ⟨y458, hy458⟩ : ∃ y_ : List Int, y_ = (x6_1 ++ [wrap64 (x7_1 + 1)]) := ⟨_, rfl⟩
                replace H : (spec_ParseScrape.l0 k3 t431 x5_1 y458 (wrap64 (x7_1 + 1))) = some (r1, r2) := by first | (rw [hy458]; with_reducible exact H) | (have H2_ := (Option.bind_some _ _).symm.trans H; rw [hy458]; with_reducible exact H2_) | (have H2_ := (Option.bind_some _ _).symm.trans H; with_reducible exact H2_) | with_reducible exact H | (rw [hy458]; exact H) | exact H
                have Ny458 := Aside0.mk hy458
                clear hy458
                have H' := Aside0.mk H
                clear H
                obtain ⟨Ao49, co49, eo49⟩ := Kd.R_slice HO_5.out
                subst eo49
                go_wp2_with (first | ((with_reducible refine gate_builtin (b := .append) (xs := #[.tmp 89, .tmp 92]) rfl ?_); at_builtin; refine Kd.R_append (Kd.int .i64) (w0 := w) w.heap.size rfl (.tmp 89) (.tmp 92) 30 3 (.int .i64 0) 8 rfl Tryz.underlying30 info3 rfl (by decide) (by omega) u6 x6_1 (wrap64 (x7_1 + 1)) [.int .i64 (wrap64 (x7_1 + 1))] (fun _ => True) (fun _ => False) rfl rfl ?aP (fun _ hk => hk.elim) ?aF ?aO ?aB ?aS ?aL ?_; (case aP => exact rfl); (case aB => exact chG); (case aF => exact (fun _ _ => trivial)); (case aO => exact (chR HO_6.out)); (case aS => exact (below_size chG)); (case aL => have := LMc48.out; omega); intro v459 w50 ho hb hg hat; rw [← Ny458.out] at ho; have n0_ := Aside0.mk (Kd.R_over' (chR HO_4.out) (Kd.R_typed (chR HO_6.out)) (by decide) hg); have n1_ := Aside0.mk (Kd.R_over' (chR HO_5.out) (Kd.R_typed (chR HO_6.out)) (by decide) hg); have n2_ := Aside0.mk (blk_grown (g := gb451) (o := .cells #[.string t446, .string t447, .int .i64 t448, .int .i64 t449] 35 (0, 0)) (blx BK451.out) hg (Kd.R_ne HO_6.out BK451.out (by decide))); have n3_ := Aside0.mk (hb); have n4_ := Aside0.mk (ho); clear HO_4; clear HO_5; clear BK451; clear HB; clear HO_6; have HO_4 := n0_; have HO_5 := n1_; have BK451 := n2_; have HB := n3_; have HO460 := n4_; clear n0_ n1_ n2_ n3_ n4_; clear ho hb hg hat))
                repeat (go_quiet (fail); try go_wp2)
                go_roundg k3
                case measure => have := HK1.out; have := HJ17.out; have := HK3.out; omega
                case rel => exact ⟨(x5_1), (y458), (wrap64 (x7_1 + 1)), (by first | rfl | (simp; done) | (simp [*]; done)), H', ⟨by have := HK1.out; have := HJ17.out; have := HK3.out; omega⟩, ⟨by (with_reducible repeat (first | apply Kd.R_alloc | apply Kd.R_drewN | apply Kd.R_drew)); exact HO_4.out⟩, ⟨by (with_reducible repeat (first | apply Kd.R_alloc | apply Kd.R_drewN | apply Kd.R_drew)); exact Kd.R_mono HO_5.out (fun _ hk => trivial)⟩, ⟨by (with_reducible repeat (first | apply Kd.R_alloc | apply Kd.R_drewN | apply Kd.R_drew)); exact HO460.out⟩, ⟨chG⟩⟩
               ·rw [if_neg c48] at H
                exact absurd H (by simp)
          ·rw [if_neg c25] at H
           exact absurd H (by simp)
         ·rw [if_neg c24] at H
          exact absurd H (by simp)
     ·rw [if_neg c17] at H
      have c17b0 : decide (x7_1 < (t431.length : Int)) = false := decide_eq_false c17
      clear c17
      simp only [Option.some.injEq, Prod.mk.injEq] at H
      obtain ⟨rfl, rfl⟩ := H
      go_wp2
      repeat (go_quiet (fail); try go_wp2)
      go_ret2
      exact ⟨_, _, chE, by (with_reducible repeat (first | apply Kd.R_alloc | apply Kd.R_drewN | apply Kd.R_drew)); exact HO_5.out, by (with_reducible repeat (first | apply Kd.R_alloc | apply Kd.R_drewN | apply Kd.R_drew)); exact HO_6.out, chB⟩
/-! ### laws_same: function 13 -/
def laws_same.l0 : Nat → List Int → List Int → Int → Option (Bool)
 | 0, _, _, _ => none
 | k + 1, x0, x1, x5 => if x5 < (x0.length : Int) then (if 0 ≤ x5 then (if x5 < (x1.length : Int) then (if (rd x0 x5) = (rd x1 x5) then (laws_same.l0 k x0 x1 (wrap64 (x5 + 1))) else (some false)) else (none)) else (none)) else (some true)
def laws_same.f (k : Nat) (l0 : List Int) (l1 : List Int) : Option (Bool) := if (l0.length : Int) = (l1.length : Int) then (laws_same.l0 k l0 l1 0) else (some false)
set_option maxHeartbeats 8000000 in
set_option maxRecDepth 100000 in
theorem laws_same.calls (k : Nat) (A0 : Option Addr) (c0 : Nat) (l0 : List Int) (A1 : Option Addr) (c1 : Nat) (l1 : List Int) (r : Bool) (w : World) (hr0 : Kd.C (Kd.int .i64) w A0 l0.length l0) (hc0 : l0.length ≤ c0) (hr1 : Kd.C (Kd.int .i64) w A1 l1.length l1) (hc1 : l1.length ≤ c1) (h : laws_same.f k l0 l1 = some r) :
  Calls Tryz.prog 13 #[.slice A0 l0.length c0, .slice A1 l1.length c1] w fun e w' => e = .returned (.bool r) ∧ Drawn0 w w' := by
 have HR0 := Aside0.mk hr0
 have HC0 := Aside0.mk hc0
 clear hr0 hc0
 have HR1 := Aside0.mk hr1
 have HC1 := Aside0.mk hc1
 clear hr1 hc1
 have H : (if (l0.length : Int) = (l1.length : Int) then (laws_same.l0 k l0 l1 0) else (some false)) = some r := h
 clear h
 by_cases c3 : (l0.length : Int) = (l1.length : Int)
 ·rw [if_pos c3] at H
  have c3b0 : ((l0.length : Int) == (l1.length : Int)) = true := beq_iff_eq.mpr c3
  have c3b1 : ((l0.length : Int) != (l1.length : Int)) = false := bne_eq_false_iff_eq.mpr c3
  have c3b2 : (l0.length == l1.length) = true := by first | simpa using c3 | (simp at c3 ⊢; omega)
  clear c3
  have H' := Aside0.mk H
  clear H
  go_enter Tryz.func13, Tryz.ntmps13
  go_wp2
  repeat (go_quiet (fail); try go_wp2)
  go_loopg [5] k (fun kq v5 w' => ∃ (x5_1 : Int), v5 = .int .i64 x5_1 ∧ Aside0 (laws_same.l0 kq l0 l1 x5_1 = some r) ∧ Aside0 (kq ≤ k) ∧ Drawn0 w w')
  case atStart => exact ⟨(0), (by first | rfl | (simp; done) | (simp [*]; done)), H', ⟨Nat.le_refl _⟩, by repeat (first | exact Drawn0.refl _ | apply Drawn0.step)⟩
  case round =>
   clear H'
   try clear c1
   try clear p2
   try clear c3
   try clear c3b0
   try clear c3b1
   try clear c3b2
   obtain ⟨x5_1, rfl, HA, HK1, ⟨m1, rfl⟩⟩ := hrel
   cases gk with
   | zero => exact absurd HA.out (by simp [laws_same.l0])
   | succ k1 =>
    have H := HA.out
    clear HA
    simp only [laws_same.l0] at H
    by_cases c4 : x5_1 < (l0.length : Int)
    ·rw [if_pos c4] at H
     have c4b0 : decide (x5_1 < (l0.length : Int)) = true := decide_eq_true c4
     clear c4
     by_cases c5 : 0 ≤ x5_1
     ·rw [if_pos c5] at H
      have c5b0 : decide (0 ≤ x5_1) = true := decide_eq_true c5
      clear c5
      by_cases c6 : x5_1 < (l1.length : Int)
      ·rw [if_pos c6] at H
       have c6b0 : decide (x5_1 < (l1.length : Int)) = true := decide_eq_true c6
       clear c6
       by_cases c7 : (rd l0 x5_1) = (rd l1 x5_1)
       ·rw [if_pos c7] at H
        have c7b0 : ((rd l0 x5_1) == (rd l1 x5_1)) = true := beq_iff_eq.mpr c7
        have c7b1 : ((rd l0 x5_1) != (rd l1 x5_1)) = false := bne_eq_false_iff_eq.mpr c7
        clear c7
        have H' := Aside0.mk H
        clear H
        have p461 : 0 ≤ (x5_1 : Int) := of_decide_eq_true chA
        have q461 : x5_1 < (l0.length : Int) := of_decide_eq_true chA
        obtain ⟨ad461, e461, hx461_0⟩ := Kd.at_int HR0.out x5_1 p461 q461
        cases e461
        replace p461 := eq_true p461
        replace q461 := eq_true q461
        have p462 : 0 ≤ (x5_1 : Int) := of_decide_eq_true chA
        have q462 : x5_1 < (l1.length : Int) := of_decide_eq_true chA
        obtain ⟨ad462, e462, hx462_0⟩ := Kd.at_int HR1.out x5_1 p462 q462
        cases e462
        replace p462 := eq_true p462
        replace q462 := eq_true q462
        go_wp2
        repeat (go_quiet (fail); try go_wp2)
        go_roundg k1
        case measure => have := HK1.out; omega
        case rel => exact ⟨(wrap64 (x5_1 + 1)), (by first | rfl | (simp; done) | (simp [*]; done)), H', ⟨by have := HK1.out; omega⟩, by repeat (first | exact Drawn0.refl _ | apply Drawn0.step)⟩
       ·rw [if_neg c7] at H
        have c7b0 : ((rd l0 x5_1) == (rd l1 x5_1)) = false := beq_eq_false_iff_ne.mpr c7
        have c7b1 : ((rd l0 x5_1) != (rd l1 x5_1)) = true := bne_iff_ne.mpr c7
        obtain rfl := Option.some.inj H
        have p461 : 0 ≤ (x5_1 : Int) := of_decide_eq_true chA
        have q461 : x5_1 < (l0.length : Int) := of_decide_eq_true chA
        obtain ⟨ad461, e461, hx461_0⟩ := Kd.at_int HR0.out x5_1 p461 q461
        cases e461
        replace p461 := eq_true p461
        replace q461 := eq_true q461
        have p462 : 0 ≤ (x5_1 : Int) := of_decide_eq_true chA
        have q462 : x5_1 < (l1.length : Int) := of_decide_eq_true chA
        obtain ⟨ad462, e462, hx462_0⟩ := Kd.at_int HR1.out x5_1 p462 q462
        cases e462
        replace p462 := eq_true p462
        replace q462 := eq_true q462
        go_wp2
        repeat (go_quiet (fail); try go_wp2)
        go_ret
        exact ⟨by first | rfl | (simp; done) | (simp [*]; done), by repeat (first | exact Drawn0.refl _ | apply Drawn0.step)⟩
      ·rw [if_neg c6] at H
       exact absurd H (by simp)
     ·rw [if_neg c5] at H
      exact absurd H (by simp)
    ·rw [if_neg c4] at H
     have c4b0 : decide (x5_1 < (l0.length : Int)) = false := decide_eq_false c4
     clear c4
     obtain rfl := Option.some.inj H
     go_wp2
     repeat (go_quiet (fail); try go_wp2)
     go_ret
     exact ⟨by first | rfl | (simp; done) | (simp [*]; done), by repeat (first | exact Drawn0.refl _ | apply Drawn0.step)⟩
 ·rw [if_neg c3] at H
  have c3b0 : ((l0.length : Int) == (l1.length : Int)) = false := beq_eq_false_iff_ne.mpr c3
  have c3b1 : ((l0.length : Int) != (l1.length : Int)) = true := bne_iff_ne.mpr c3
  have c3b2 : (l0.length == l1.length) = false := by first | simpa using c3 | (simp at c3 ⊢; omega)
  obtain rfl := Option.some.inj H
  go_enter Tryz.func13, Tryz.ntmps13
  go_wp2
  repeat (go_quiet (fail); try go_wp2)
  go_ret
  exact ⟨by first | rfl | (simp; done) | (simp [*]; done), by repeat (first | exact Drawn0.refl _ | apply Drawn0.step)⟩
end Go.Proofs.YtbbnlagdahickaaGreatDoor.PFnSamples
