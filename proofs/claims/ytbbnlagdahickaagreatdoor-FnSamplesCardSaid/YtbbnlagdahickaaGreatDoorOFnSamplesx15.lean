/- What the Go functions laws.FnSamples compute, as Lean functions, and the proof that each call comes to just that. Conditions: those at each theorem. -/
import Derived.Test.YtbbnlagdahickaaGreatDoorSortS
import Derived.Test.YtbbnlagdahickaaGreatDoorOFnSamplesx0
import Derived.Test.YtbbnlagdahickaaGreatDoorOFnSamplesx1
import Derived.Test.YtbbnlagdahickaaGreatDoorOFnSamplesx2
import Derived.Test.YtbbnlagdahickaaGreatDoorOFnSamplesx3
import Derived.Test.YtbbnlagdahickaaGreatDoorOFnSamplesx4
import Derived.Test.YtbbnlagdahickaaGreatDoorOFnSamplesx5
import Derived.Test.YtbbnlagdahickaaGreatDoorOFnSamplesx6
import Derived.Test.YtbbnlagdahickaaGreatDoorOFnSamplesx7
import Derived.Test.YtbbnlagdahickaaGreatDoorOFnSamplesx9
import Derived.Test.YtbbnlagdahickaaGreatDoorOFnSamplesx10
import Derived.Test.YtbbnlagdahickaaGreatDoorOFnSamplesx14
namespace Go.Proofs.YtbbnlagdahickaaGreatDoor.PFnSamples
open Go.RowKit Go.Proofs.YtbbnlagdahickaaGreatDoorW.PrintWords Go.Proofs.YtbbnlagdahickaaGreatDoorW.PrintLast Go.Proofs.YtbbnlagdahickaaGreatDoorW.PrintMore
attribute [local go_sem] max2_int min2_int max_two min_two max_three min_three max_four min_four   -- for this text's walks alone
set_option linter.unusedVariables false
set_option linter.unusedSimpArgs false
attribute [local go_sem high] eqA35
/-! ### laws_FnSamples: function 3 -/
mutual
def laws_FnSamples.j0 : Nat → List (S35) → Bool → ByteArray → Bool → Option (Bool)
 | 0, _, _, _, _ => none
 | k + 1, x3, x5, x6, x38 => if x38 = true then (some false) else ((impl_SortSamples.f x3).bind fun t471 => ((impl_SortSamples.f t471).bind fun t474 => (if (x3.length : Int) ≤ 300 then (if (t471.length : Int) = (x3.length : Int) then ((spec_SortSamples.f k x3).bind fun t477 => ((laws_sameSamples.f k t471 t477).bind fun t480 => (if t480 = true then ((laws_sameSamples.f k t474 t471).bind fun t481 => (laws_FnSamples.j1 k x3 x5 x6 (!t481))) else (laws_FnSamples.j1 k x3 x5 x6 true)))) else (laws_FnSamples.j1 k x3 x5 x6 true)) else (laws_FnSamples.j1 k x3 x5 x6 false))))
def laws_FnSamples.j1 : Nat → List (S35) → Bool → ByteArray → Bool → Option (Bool)
 | 0, _, _, _, _ => none
 | k + 1, x3, x5, x6, x65 => if x65 = true then (some false) else (if x5 = true then (laws_FnSamples.j2 k x3 x6 (decide ((x6.size : Int) > 3000))) else (laws_FnSamples.j2 k x3 x6 true))
def laws_FnSamples.j2 : Nat → List (S35) → ByteArray → Bool → Option (Bool)
 | 0, _, _, _ => none
 | k + 1, x3, x6, x72 => if x72 = true then (some true) else ((impl_ParseScrape.f k x6).bind fun bt482 => ((spec_ParseScrape.f k x6).bind fun bt488 => ((laws_sameSamples.f k bt482.1 bt488.1).bind fun t494 => (if t494 = true then ((laws_same.f k bt482.2 bt488.2).bind fun t495 => (if t495 = true then (laws_FnSamples.j3 k x3 ((wrap64 ((bt482.1.length : Int) + (bt482.2.length : Int))) != (x3.length : Int))) else (laws_FnSamples.j3 k x3 true))) else (laws_FnSamples.j3 k x3 true)))))
def laws_FnSamples.j3 : Nat → List (S35) → Bool → Option (Bool)
 | 0, _, _ => none
 | k + 1, x3, x102 => if x102 = true then (some false) else (laws_FnSamples.l0 k x3 0)
def laws_FnSamples.l0 : Nat → List (S35) → Int → Option (Bool)
 | 0, _, _ => none
 | k + 1, x3, x14 => if x14 < (x3.length : Int) then (if 0 ≤ x14 then ((impl_SampleLine.f k ((rd_T35 x3 x14).f0) ((rd_T35 x3 x14).f1) ((rd_T35 x3 x14).f2) ((rd_T35 x3 x14).f3)).bind fun t497 => ((impl_ParseSample.f k t497).bind fun bt498 => (if bt498.2.2.2.2 = true then (if (!(bt498.1.toList == (((rd_T35 x3 x14).f0).toList)) || (!(bt498.2.1.toList == (((rd_T35 x3 x14).f1).toList)) || (!(bt498.2.2.1 == ((rd_T35 x3 x14).f2)) || (!(bt498.2.2.2.1 == ((rd_T35 x3 x14).f3)))))) = true then (some false) else (laws_FnSamples.l0 k x3 (wrap64 (x14 + 1)))) else (some false)))) else (none)) else (some true)
end
def laws_FnSamples.f (k : Nat) (l0 : List Int) : Option (Bool) := (laws_big.f l0).bind fun t463 => (if t463 = true then (some true) else ((spec_DrawPrintScrape.f k l0).bind fun t464 => ((spec_PrintScrape.f k t464).bind fun bt467 => ((impl_PrintScrape.f k t464).bind fun bt469 => (if (bt469.2 != bt467.2) = true then (laws_FnSamples.j0 k t464 bt467.2 bt469.1 true) else (laws_FnSamples.j0 k t464 bt467.2 bt469.1 (bt469.1.toList != bt467.1.toList)))))))
set_option maxHeartbeats 8000000 in
set_option maxRecDepth 100000 in
theorem laws_FnSamples.calls (k : Nat) (A0 : Option Addr) (c0 : Nat) (l0 : List Int) (r : Bool) (w : World) (HT0 : LayB w) (hr0 : Kd.C (Kd.int .u8) w A0 l0.length l0) (hc0 : l0.length ≤ c0) (h : laws_FnSamples.f k l0 = some r) :
  Calls Tryz.prog 3 #[.slice A0 l0.length c0] w fun e w' => e = .returned (.bool r) ∧ Below w.heap.size w w' := by
 have HT := Aside0.mk HT0
 clear HT0
 have hu35 := Tryz.underlying35
 have HR0 := Aside0.mk hr0
 have HC0 := Aside0.mk hc0
 clear hr0 hc0
 have HB := Aside0.mk (Below.refl w.heap.size w)
 have H : ((laws_big.f l0).bind fun t463 => (if t463 = true then (some true) else ((spec_DrawPrintScrape.f k l0).bind fun t464 => ((spec_PrintScrape.f k t464).bind fun bt467 => ((impl_PrintScrape.f k t464).bind fun bt469 => (if (bt469.2 != bt467.2) = true then (laws_FnSamples.j0 k t464 bt467.2 bt469.1 true) else (laws_FnSamples.j0 k t464 bt467.2 bt469.1 (bt469.1.toList != bt467.1.toList)))))))) = some r := h
 clear h
 replace H := Option.bind_eq_some_iff.mp H
 obtain ⟨t463, A20, H⟩ := H
 replace H : (if t463 = true then (some true) else ((spec_DrawPrintScrape.f k l0).bind fun t464 => ((spec_PrintScrape.f k t464).bind fun bt467 => ((impl_PrintScrape.f k t464).bind fun bt469 => (if (bt469.2 != bt467.2) = true then (laws_FnSamples.j0 k t464 bt467.2 bt469.1 true) else (laws_FnSamples.j0 k t464 bt467.2 bt469.1 (bt469.1.toList != bt467.1.toList))))))) = some r := H
 have A2 := Aside0.mk A20
 clear A20
 by_cases c3 : t463 = true
 ·subst c3
  have H1 : (some true) = some r := by rw [if_pos rfl] at H; exact H
  clear H
  have H := H1
  clear H1
  obtain rfl := Option.some.inj H
  go_enter Tryz.func3, Tryz.ntmps3
  go_wp2_with (first | (go_at_call 4; (with_reducible refine (laws_big.calls _ _ l0 true _ ?side1 ?side2 A2.out).mono ?_); (case side1 => repeat (first | exact HR0.out | (with_reducible refine Kd.C_alloc ?_ _) | (with_reducible refine Kd.C_drewN ?_ _) | (with_reducible refine Kd.C_drew ?_))); (case side2 => exact HC0.out); rintro e w' ⟨rfl, ⟨nd, rfl⟩⟩; (try first | exact ⟨rfl, _, World.drewN_drewN _ _ _⟩ | exact ⟨rfl, _, Eq.trans (World.drewN_drewN _ _ _) (congrArg (World.drewN _) (Nat.add_assoc _ _ _))⟩)))
  repeat (go_quiet (fail); try go_wp2)
  go_ret
  exact ⟨chE, chB⟩
 ·replace c3 := Bool.eq_false_iff.mpr c3
  subst c3
  have H1 : ((spec_DrawPrintScrape.f k l0).bind fun t464 => ((spec_PrintScrape.f k t464).bind fun bt467 => ((impl_PrintScrape.f k t464).bind fun bt469 => (if (bt469.2 != bt467.2) = true then (laws_FnSamples.j0 k t464 bt467.2 bt469.1 true) else (laws_FnSamples.j0 k t464 bt467.2 bt469.1 (bt469.1.toList != bt467.1.toList)))))) = some r := by rw [if_neg (show ¬ (false = true) by decide)] at H; exact H
  clear H
  have H := H1
  clear H1
  replace H := Option.bind_eq_some_iff.mp H
  obtain ⟨t464, A40, H⟩ := H
  replace H : ((spec_PrintScrape.f k t464).bind fun bt467 => ((impl_PrintScrape.f k t464).bind fun bt469 => (if (bt469.2 != bt467.2) = true then (laws_FnSamples.j0 k t464 bt467.2 bt469.1 true) else (laws_FnSamples.j0 k t464 bt467.2 bt469.1 (bt469.1.toList != bt467.1.toList))))) = some r := H
  have A4 := Aside0.mk A40
  clear A40
  replace H := Option.bind_eq_some_iff.mp H
  obtain ⟨⟨t467, t468⟩, A50, H⟩ := H
  replace H : ((impl_PrintScrape.f k t464).bind fun bt469 => (if (bt469.2 != t468) = true then (laws_FnSamples.j0 k t464 t468 bt469.1 true) else (laws_FnSamples.j0 k t464 t468 bt469.1 (bt469.1.toList != t467.toList)))) = some r := H
  have A5 := Aside0.mk A50
  clear A50
  replace H := Option.bind_eq_some_iff.mp H
  obtain ⟨⟨t469, t470⟩, A60, H⟩ := H
  replace H : (if (t470 != t468) = true then (laws_FnSamples.j0 k t464 t468 t469 true) else (laws_FnSamples.j0 k t464 t468 t469 (t469.toList != t467.toList))) = some r := H
  have A6 := Aside0.mk A60
  clear A60
  have HC7 := Aside0.mk H
  clear H
  go_enter Tryz.func3, Tryz.ntmps3
  go_upto_region 6 with (first | (go_at_call 4; (with_reducible refine (laws_big.calls _ _ l0 false _ ?side1 ?side2 A2.out).mono ?_); (case side1 => repeat (first | exact HR0.out | (with_reducible refine Kd.C_alloc ?_ _) | (with_reducible refine Kd.C_drewN ?_ _) | (with_reducible refine Kd.C_drew ?_))); (case side2 => exact HC0.out); rintro e w' ⟨rfl, ⟨nd, rfl⟩⟩; (try first | exact ⟨rfl, _, World.drewN_drewN _ _ _⟩ | exact ⟨rfl, _, Eq.trans (World.drewN_drewN _ _ _) (congrArg (World.drewN _) (Nat.add_assoc _ _ _))⟩)) | (go_at_call 5; (with_reducible refine (spec_DrawPrintScrape.calls k _ _ l0 t464 _ ?side1 ?side2 A4.out).mono ?_); (case side1 => repeat (first | exact HR0.out | (with_reducible refine Kd.C_alloc ?_ _) | (with_reducible refine Kd.C_drewN ?_ _) | (with_reducible refine Kd.C_drew ?_))); (case side2 => exact HC0.out); rintro e w8 ⟨v465, rfl, ho0, hb⟩; have n0_ := Aside0.mk (Kd.R_lower ho0 (below_size chB)); have n1_ := Aside0.mk (below_step chB hb); clear HB; have HO466 := n0_; have HB := n1_; clear n0_ n1_; (try clear hb); (try clear hb2); (try clear hk); (try clear hi); (try clear ho0); obtain ⟨Ao9, co9, eo9⟩ := Kd.R_slice HO466.out; subst eo9) | (go_at_call 6; (with_reducible refine (spec_PrintScrape.calls k _ _ t464 t467 t468 _ ?side1 ?side2 A5.out).mono ?_); (case side1 => repeat (first | exact (Kd.R_reads' HO466.out).2.2 | (with_reducible refine Kd.C_alloc ?_ _) | (with_reducible refine Kd.C_drewN ?_ _) | (with_reducible refine Kd.C_drew ?_))); (case side2 => exact (Kd.R_reads' HO466.out).2.1); rintro e w10 ⟨rfl, hb⟩; have n0_ := Aside0.mk (Kd.R_below (chR HO466.out) hb); have n1_ := Aside0.mk (below_step chB hb); clear HO466; clear HB; have HO466 := n0_; have HB := n1_; clear n0_ n1_; (try clear hb); (try clear hb2); (try clear hk); (try clear hi)) | (go_at_call 7; (with_reducible refine (impl_PrintScrape.calls k _ _ t464 t469 t470 _ ?side_lay ?side1 ?side2 A6.out).mono ?_); (case side_lay => exact LayB.up HT.out chB); (case side1 => repeat (first | exact (Kd.R_reads' HO466.out).2.2 | (with_reducible refine Kd.C_alloc ?_ _) | (with_reducible refine Kd.C_drewN ?_ _) | (with_reducible refine Kd.C_drew ?_))); (case side2 => exact (Kd.R_reads' HO466.out).2.1); rintro e w11 ⟨rfl, hb⟩; have n0_ := Aside0.mk (Kd.R_below (chR HO466.out) hb); have n1_ := Aside0.mk (below_step chB hb); clear HO466; clear HB; have HO466 := n0_; have HB := n1_; clear n0_ n1_; (try clear hb); (try clear hb2); (try clear hk); (try clear hi)))
  repeat (go_quiet (fail); try go_wp2)
  (try simp only [Act.put, List.setIfInBounds_toArray, List.set_cons_zero, List.set_cons_succ])
  go_cut [38] (fun v38 wc => ∃ (kq : Nat) (x38_6 : Bool), v38 = .bool x38_6 ∧ Aside0 (laws_FnSamples.j0 kq t464 t468 t469 x38_6 = some r) ∧ Aside0 (kq ≤ k) ∧ Aside0 (Kd.R k35 35 wc w.heap.size (fun _ => True) (.slice Ao9 t464.length co9) t464) ∧ Aside0 (Below w.heap.size w wc))
  case first =>
   have H := HC7.out
   clear HC7
   by_cases c12 : (t470 != t468) = true
   ·rw [if_pos c12] at H
    have c12b0 : (t470 != t468) = true := c12
    (try (have c12b1 : decide (t470 = t468) = false := by simpa using c12))
    (try (have c12b2 : (t470 == t468) = false := by simpa using c12))
    (try (have c12b3 : ¬ (t470 = t468) := by simpa using c12))
    clear c12
    (first | rw [c12b0] | (simp only [i64_w, i32_w]; rw [c12b0]) | skip)
    have H' := Aside0.mk H
    clear H
    go_wp2
    repeat (go_quiet (fail); try go_wp2)
    go_meet
    case rel => exact ⟨_, (true), (by first | rfl | (simp; done) | (simp [*]; done)), H', ⟨by first | omega | exact Nat.le_refl _⟩, ⟨by (with_reducible repeat (first | apply Kd.R_alloc | apply Kd.R_drewN | apply Kd.R_drew)); exact HO466.out⟩, ⟨chB⟩⟩
   ·rw [if_neg c12] at H
    have c12b0 : (t470 != t468) = false := by simpa using c12
    (try (have c12b1 : decide (t470 = t468) = true := by simpa using c12))
    (try (have c12b2 : (t470 == t468) = true := by simpa using c12))
    clear c12
    (first | rw [c12b0] | (simp only [i64_w, i32_w]; rw [c12b0]) | skip)
    have H' := Aside0.mk H
    clear H
    go_wp2
    repeat (go_quiet (fail); try go_wp2)
    go_meet
    case rel => exact ⟨_, ((t469.toList != t467.toList)), (by first | rfl | (simp; done) | (simp [*]; done)), H', ⟨by first | omega | exact Nat.le_refl _⟩, ⟨by (with_reducible repeat (first | apply Kd.R_alloc | apply Kd.R_drewN | apply Kd.R_drew)); exact HO466.out⟩, ⟨chB⟩⟩
  case rest =>
   clear HC7
   try clear c1
   try clear p2
   try clear c3
   try clear c12
   try clear c12b0
   try clear c12b1
   try clear c12b2
   obtain ⟨kq, x38_6, rfl, HA, HJ6, HO_3, HB⟩ := hcut
   cases kq with
   | zero => exact absurd HA.out (by simp [laws_FnSamples.j0])
   | succ kj6 =>
    have H := HA.out
    clear HA
    simp only [laws_FnSamples.j0] at H
    by_cases c13 : x38_6 = true
    ·subst c13
     have H1 : (some false) = some r := by rw [if_pos rfl] at H; exact H
     clear H
     have H := H1
     clear H1
     obtain rfl := Option.some.inj H
     go_wp2
     repeat (go_quiet (fail); try go_wp2)
     go_ret
     exact ⟨chE, chB⟩
    ·replace c13 := Bool.eq_false_iff.mpr c13
     subst c13
     have H1 : ((impl_SortSamples.f t464).bind fun t471 => ((impl_SortSamples.f t471).bind fun t474 => (if (t464.length : Int) ≤ 300 then (if (t471.length : Int) = (t464.length : Int) then ((spec_SortSamples.f kj6 t464).bind fun t477 => ((laws_sameSamples.f kj6 t471 t477).bind fun t480 => (if t480 = true then ((laws_sameSamples.f kj6 t474 t471).bind fun t481 => (laws_FnSamples.j1 kj6 t464 t468 t469 (!t481))) else (laws_FnSamples.j1 kj6 t464 t468 t469 true)))) else (laws_FnSamples.j1 kj6 t464 t468 t469 true)) else (laws_FnSamples.j1 kj6 t464 t468 t469 false)))) = some r := by rw [if_neg (show ¬ (false = true) by decide)] at H; exact H
     clear H
     have H := H1
     clear H1
     replace H := Option.bind_eq_some_iff.mp H
     obtain ⟨t471, A140, H⟩ := H
     replace H : ((impl_SortSamples.f t471).bind fun t474 => (if (t464.length : Int) ≤ 300 then (if (t471.length : Int) = (t464.length : Int) then ((spec_SortSamples.f kj6 t464).bind fun t477 => ((laws_sameSamples.f kj6 t471 t477).bind fun t480 => (if t480 = true then ((laws_sameSamples.f kj6 t474 t471).bind fun t481 => (laws_FnSamples.j1 kj6 t464 t468 t469 (!t481))) else (laws_FnSamples.j1 kj6 t464 t468 t469 true)))) else (laws_FnSamples.j1 kj6 t464 t468 t469 true)) else (laws_FnSamples.j1 kj6 t464 t468 t469 false))) = some r := H
     have A14 := Aside0.mk A140
     clear A140
     replace H := Option.bind_eq_some_iff.mp H
     obtain ⟨t474, A150, H⟩ := H
     replace H : (if (t464.length : Int) ≤ 300 then (if (t471.length : Int) = (t464.length : Int) then ((spec_SortSamples.f kj6 t464).bind fun t477 => ((laws_sameSamples.f kj6 t471 t477).bind fun t480 => (if t480 = true then ((laws_sameSamples.f kj6 t474 t471).bind fun t481 => (laws_FnSamples.j1 kj6 t464 t468 t469 (!t481))) else (laws_FnSamples.j1 kj6 t464 t468 t469 true)))) else (laws_FnSamples.j1 kj6 t464 t468 t469 true)) else (laws_FnSamples.j1 kj6 t464 t468 t469 false)) = some r := H
     have A15 := Aside0.mk A150
     clear A150
     have HC16 := Aside0.mk H
     clear H
     go_upto_region 10 with (first | (go_at_call 8; (with_reducible refine (impl_SortSamples.calls _ _ t464 t471 _ ?side1 ?side2 A14.out).mono ?_); (case side1 => repeat (first | exact (Kd.R_reads' HO_3.out).2.2 | (with_reducible refine Kd.C_alloc ?_ _) | (with_reducible refine Kd.C_drewN ?_ _) | (with_reducible refine Kd.C_drew ?_))); (case side2 => exact (Kd.R_reads' HO_3.out).2.1); rintro e w17 ⟨v472, rfl, ho0, hb⟩; have n0_ := Aside0.mk (Kd.R_elder' (chR HO_3.out) (Kd.R_base ho0) hb); have n1_ := Aside0.mk (Kd.R_lower (Kd.R_new' ho0 (Kd.R_lt (chR HO_3.out))) (below_size chB)); have n2_ := Aside0.mk (below_step chB hb); clear HO_3; clear HB; have HO_3 := n0_; have HO473 := n1_; have HB := n2_; clear n0_ n1_ n2_; (try clear hb); (try clear hb2); (try clear hk); (try clear hi); (try clear ho0); obtain ⟨Ao18, co18, eo18⟩ := Kd.R_slice HO473.out; subst eo18) | (go_at_call 8; (with_reducible refine (impl_SortSamples.calls _ _ t471 t474 _ ?side1 ?side2 A15.out).mono ?_); (case side1 => repeat (first | exact (Kd.R_reads' HO473.out).2.2 | (with_reducible refine Kd.C_alloc ?_ _) | (with_reducible refine Kd.C_drewN ?_ _) | (with_reducible refine Kd.C_drew ?_))); (case side2 => exact (Kd.R_reads' HO473.out).2.1); rintro e w19 ⟨v475, rfl, ho0, hb⟩; have n0_ := Aside0.mk (Kd.R_elder' (chR HO_3.out) (Kd.R_base ho0) hb); have n1_ := Aside0.mk (Kd.R_elder' (chR HO473.out) (Kd.R_base ho0) hb); have n2_ := Aside0.mk (Kd.R_lower (Kd.R_new' (Kd.R_new' ho0 (Kd.R_lt (chR HO_3.out))) (Kd.R_lt (chR HO473.out))) (below_size chB)); have n3_ := Aside0.mk (below_step chB hb); clear HO_3; clear HO473; clear HB; have HO_3 := n0_; have HO473 := n1_; have HO476 := n2_; have HB := n3_; clear n0_ n1_ n2_ n3_; (try clear hb); (try clear hb2); (try clear hk); (try clear hi); (try clear ho0)))
     repeat (go_quiet (fail); try go_wp2)
     (try simp only [Act.put, List.setIfInBounds_toArray, List.set_cons_zero, List.set_cons_succ])
     go_cut [65] (fun v65 wc => ∃ (kq : Nat) (x65_15 : Bool), v65 = .bool x65_15 ∧ Aside0 (laws_FnSamples.j1 kq t464 t468 t469 x65_15 = some r) ∧ Aside0 (kq ≤ kj6) ∧ Aside0 (Kd.R k35 35 wc w.heap.size (fun _ => True) (.slice Ao9 t464.length co9) t464) ∧ Aside0 (Below w.heap.size w wc))
     case first =>
      have H := HC16.out
      clear HC16
      by_cases c20 : (t464.length : Int) ≤ 300
      ·rw [if_pos c20] at H
       have c20b0 : decide ((t464.length : Int) ≤ 300) = true := decide_eq_true c20
       have c20b1 : decide (t464.length ≤ 300) = true := decide_eq_true (by omega)
       clear c20
       (first | rw [c20b0] | (simp only [i64_w, i32_w]; rw [c20b0]) | skip)
       by_cases c21 : (t471.length : Int) = (t464.length : Int)
       ·rw [if_pos c21] at H
        have c21b0 : ((t471.length : Int) == (t464.length : Int)) = true := beq_iff_eq.mpr c21
        have c21b1 : ((t471.length : Int) != (t464.length : Int)) = false := bne_eq_false_iff_eq.mpr c21
        have c21b2 : (t471.length == t464.length) = true := by first | simpa using c21 | (simp at c21 ⊢; omega)
        clear c21
        replace H := Option.bind_eq_some_iff.mp H
        obtain ⟨t477, A220, H⟩ := H
        replace H : ((laws_sameSamples.f kj6 t471 t477).bind fun t480 => (if t480 = true then ((laws_sameSamples.f kj6 t474 t471).bind fun t481 => (laws_FnSamples.j1 kj6 t464 t468 t469 (!t481))) else (laws_FnSamples.j1 kj6 t464 t468 t469 true))) = some r := H
        have A22 := Aside0.mk A220
        clear A220
        replace H := Option.bind_eq_some_iff.mp H
        obtain ⟨t480, A230, H⟩ := H
        replace H : (if t480 = true then ((laws_sameSamples.f kj6 t474 t471).bind fun t481 => (laws_FnSamples.j1 kj6 t464 t468 t469 (!t481))) else (laws_FnSamples.j1 kj6 t464 t468 t469 true)) = some r := H
        have A23 := Aside0.mk A230
        clear A230
        by_cases c24 : t480 = true
        ·subst c24
         have H1 : ((laws_sameSamples.f kj6 t474 t471).bind fun t481 => (laws_FnSamples.j1 kj6 t464 t468 t469 (!t481))) = some r := by rw [if_pos rfl] at H; exact H
         clear H
         have H := H1
         clear H1
         replace H := Option.bind_eq_some_iff.mp H
         obtain ⟨t481, A250, H⟩ := H
         replace H : (laws_FnSamples.j1 kj6 t464 t468 t469 (!t481)) = some r := H
         have A25 := Aside0.mk A250
         clear A250
         have H' := Aside0.mk H
         clear H
         go_wp2_with (first | (go_at_call 10; (with_reducible refine (spec_SortSamples.calls kj6 _ _ t464 t477 _ ?side1 ?side2 A22.out).mono ?_); (case side1 => repeat (first | exact (Kd.R_reads' HO_3.out).2.2 | (with_reducible refine Kd.C_alloc ?_ _) | (with_reducible refine Kd.C_drewN ?_ _) | (with_reducible refine Kd.C_drew ?_))); (case side2 => exact (Kd.R_reads' HO_3.out).2.1); rintro e w26 ⟨v478, rfl, ho0, hb⟩; have n0_ := Aside0.mk (Kd.R_elder' (chR HO_3.out) (Kd.R_base ho0) hb); have n1_ := Aside0.mk (Kd.R_elder' (chR HO473.out) (Kd.R_base ho0) hb); have n2_ := Aside0.mk (Kd.R_elder' (chR HO476.out) (Kd.R_base ho0) hb); have n3_ := Aside0.mk (Kd.R_lower (Kd.R_new' (Kd.R_new' (Kd.R_new' ho0 (Kd.R_lt (chR HO_3.out))) (Kd.R_lt (chR HO473.out))) (Kd.R_lt (chR HO476.out))) (below_size chB)); have n4_ := Aside0.mk (below_step chB hb); clear HO_3; clear HO473; clear HO476; clear HB; have HO_3 := n0_; have HO473 := n1_; have HO476 := n2_; have HO479 := n3_; have HB := n4_; clear n0_ n1_ n2_ n3_ n4_; (try clear hb); (try clear hb2); (try clear hk); (try clear hi); (try clear ho0); obtain ⟨Ao27, co27, eo27⟩ := Kd.R_slice HO479.out; subst eo27) | (go_at_call 9; (with_reducible refine (laws_sameSamples.calls kj6 _ _ t471 _ _ t477 true _ ?side1 ?side2 ?side3 ?side4 A23.out).mono ?_); (case side1 => repeat (first | exact (Kd.R_reads' HO473.out).2.2 | (with_reducible refine Kd.C_alloc ?_ _) | (with_reducible refine Kd.C_drewN ?_ _) | (with_reducible refine Kd.C_drew ?_))); (case side2 => exact (Kd.R_reads' HO473.out).2.1); (case side3 => repeat (first | exact (Kd.R_reads' HO479.out).2.2 | (with_reducible refine Kd.C_alloc ?_ _) | (with_reducible refine Kd.C_drewN ?_ _) | (with_reducible refine Kd.C_drew ?_))); (case side4 => exact (Kd.R_reads' HO479.out).2.1); rintro e w' ⟨rfl, ⟨nd, rfl⟩⟩; (try first | exact ⟨rfl, _, World.drewN_drewN _ _ _⟩ | exact ⟨rfl, _, Eq.trans (World.drewN_drewN _ _ _) (congrArg (World.drewN _) (Nat.add_assoc _ _ _))⟩); obtain ⟨Ao28, co28, eo28⟩ := Kd.R_slice HO476.out; subst eo28) | (go_at_call 9; (with_reducible refine (laws_sameSamples.calls kj6 _ _ t474 _ _ t471 t481 _ ?side1 ?side2 ?side3 ?side4 A25.out).mono ?_); (case side1 => repeat (first | exact (Kd.R_reads' HO476.out).2.2 | (with_reducible refine Kd.C_alloc ?_ _) | (with_reducible refine Kd.C_drewN ?_ _) | (with_reducible refine Kd.C_drew ?_))); (case side2 => exact (Kd.R_reads' HO476.out).2.1); (case side3 => repeat (first | exact (Kd.R_reads' HO473.out).2.2 | (with_reducible refine Kd.C_alloc ?_ _) | (with_reducible refine Kd.C_drewN ?_ _) | (with_reducible refine Kd.C_drew ?_))); (case side4 => exact (Kd.R_reads' HO473.out).2.1); rintro e w' ⟨rfl, ⟨nd, rfl⟩⟩; (try first | exact ⟨rfl, _, World.drewN_drewN _ _ _⟩ | exact ⟨rfl, _, Eq.trans (World.drewN_drewN _ _ _) (congrArg (World.drewN _) (Nat.add_assoc _ _ _))⟩)))
         repeat (go_quiet (fail); try go_wp2)
         go_meet
         case rel => exact ⟨_, (!t481), (by first | rfl | (simp; done) | (simp [*]; done)), H', ⟨by have := HJ6.out; first | omega | exact Nat.le_refl _⟩, ⟨by (with_reducible repeat (first | apply Kd.R_alloc | apply Kd.R_drewN | apply Kd.R_drew)); exact Kd.R_mono HO_3.out (fun _ hk => trivial)⟩, ⟨chB⟩⟩
        ·replace c24 := Bool.eq_false_iff.mpr c24
         subst c24
         have H1 : (laws_FnSamples.j1 kj6 t464 t468 t469 true) = some r := by rw [if_neg (show ¬ (false = true) by decide)] at H; exact H
         clear H
         have H := H1
         clear H1
         have H' := Aside0.mk H
         clear H
         go_wp2_with (first | (go_at_call 10; (with_reducible refine (spec_SortSamples.calls kj6 _ _ t464 t477 _ ?side1 ?side2 A22.out).mono ?_); (case side1 => repeat (first | exact (Kd.R_reads' HO_3.out).2.2 | (with_reducible refine Kd.C_alloc ?_ _) | (with_reducible refine Kd.C_drewN ?_ _) | (with_reducible refine Kd.C_drew ?_))); (case side2 => exact (Kd.R_reads' HO_3.out).2.1); rintro e w29 ⟨v478, rfl, ho0, hb⟩; have n0_ := Aside0.mk (Kd.R_elder' (chR HO_3.out) (Kd.R_base ho0) hb); have n1_ := Aside0.mk (Kd.R_elder' (chR HO473.out) (Kd.R_base ho0) hb); have n2_ := Aside0.mk (Kd.R_elder' (chR HO476.out) (Kd.R_base ho0) hb); have n3_ := Aside0.mk (Kd.R_lower (Kd.R_new' (Kd.R_new' (Kd.R_new' ho0 (Kd.R_lt (chR HO_3.out))) (Kd.R_lt (chR HO473.out))) (Kd.R_lt (chR HO476.out))) (below_size chB)); have n4_ := Aside0.mk (below_step chB hb); clear HO_3; clear HO473; clear HO476; clear HB; have HO_3 := n0_; have HO473 := n1_; have HO476 := n2_; have HO479 := n3_; have HB := n4_; clear n0_ n1_ n2_ n3_ n4_; (try clear hb); (try clear hb2); (try clear hk); (try clear hi); (try clear ho0); obtain ⟨Ao30, co30, eo30⟩ := Kd.R_slice HO479.out; subst eo30) | (go_at_call 9; (with_reducible refine (laws_sameSamples.calls kj6 _ _ t471 _ _ t477 false _ ?side1 ?side2 ?side3 ?side4 A23.out).mono ?_); (case side1 => repeat (first | exact (Kd.R_reads' HO473.out).2.2 | (with_reducible refine Kd.C_alloc ?_ _) | (with_reducible refine Kd.C_drewN ?_ _) | (with_reducible refine Kd.C_drew ?_))); (case side2 => exact (Kd.R_reads' HO473.out).2.1); (case side3 => repeat (first | exact (Kd.R_reads' HO479.out).2.2 | (with_reducible refine Kd.C_alloc ?_ _) | (with_reducible refine Kd.C_drewN ?_ _) | (with_reducible refine Kd.C_drew ?_))); (case side4 => exact (Kd.R_reads' HO479.out).2.1); rintro e w' ⟨rfl, ⟨nd, rfl⟩⟩; (try first | exact ⟨rfl, _, World.drewN_drewN _ _ _⟩ | exact ⟨rfl, _, Eq.trans (World.drewN_drewN _ _ _) (congrArg (World.drewN _) (Nat.add_assoc _ _ _))⟩)))
         repeat (go_quiet (fail); try go_wp2)
         go_meet
         case rel => exact ⟨_, (true), (by first | rfl | (simp; done) | (simp [*]; done)), H', ⟨by have := HJ6.out; first | omega | exact Nat.le_refl _⟩, ⟨by (with_reducible repeat (first | apply Kd.R_alloc | apply Kd.R_drewN | apply Kd.R_drew)); exact Kd.R_mono HO_3.out (fun _ hk => trivial)⟩, ⟨chB⟩⟩
       ·rw [if_neg c21] at H
        have c21b0 : ((t471.length : Int) == (t464.length : Int)) = false := beq_eq_false_iff_ne.mpr c21
        have c21b1 : ((t471.length : Int) != (t464.length : Int)) = true := bne_iff_ne.mpr c21
        have c21b2 : (t471.length == t464.length) = false := by first | simpa using c21 | (simp at c21 ⊢; omega)
        have H' := Aside0.mk H
        clear H
        go_wp2
        repeat (go_quiet (fail); try go_wp2)
        go_meet
        case rel => exact ⟨_, (true), (by first | rfl | (simp; done) | (simp [*]; done)), H', ⟨by have := HJ6.out; first | omega | exact Nat.le_refl _⟩, ⟨by (with_reducible repeat (first | apply Kd.R_alloc | apply Kd.R_drewN | apply Kd.R_drew)); exact Kd.R_mono HO_3.out (fun _ hk => trivial)⟩, ⟨chB⟩⟩
      ·rw [if_neg c20] at H
       have c20b0 : decide ((t464.length : Int) ≤ 300) = false := decide_eq_false c20
       have c20b1 : decide (t464.length ≤ 300) = false := decide_eq_false (by omega)
       clear c20
       (first | rw [c20b0] | (simp only [i64_w, i32_w]; rw [c20b0]) | skip)
       have H' := Aside0.mk H
       clear H
       go_wp2
       repeat (go_quiet (fail); try go_wp2)
       go_meet
       case rel => exact ⟨_, (false), (by first | rfl | (simp; done) | (simp [*]; done)), H', ⟨by have := HJ6.out; first | omega | exact Nat.le_refl _⟩, ⟨by (with_reducible repeat (first | apply Kd.R_alloc | apply Kd.R_drewN | apply Kd.R_drew)); exact Kd.R_mono HO_3.out (fun _ hk => trivial)⟩, ⟨chB⟩⟩
     case rest =>
      clear HC16
      try clear c1
      try clear c2
      try clear p2
      try clear c3
      try clear c12
      try clear c12b0
      try clear c12b1
      try clear c12b2
      try clear c13
      try clear c20
      try clear c20b0
      try clear c20b1
      try clear c21
      try clear c21b0
      try clear c21b1
      try clear c21b2
      try clear c24
      try clear p2
      obtain ⟨kq, x65_15, rfl, HA, HJ15, HO_3, HB⟩ := hcut
      cases kq with
      | zero => exact absurd HA.out (by simp [laws_FnSamples.j1])
      | succ kj15 =>
       have H := HA.out
       clear HA
       simp only [laws_FnSamples.j1] at H
       by_cases c31 : x65_15 = true
       ·subst c31
        have H1 : (some false) = some r := by rw [if_pos rfl] at H; exact H
        clear H
        have H := H1
        clear H1
        obtain rfl := Option.some.inj H
        go_wp2
        repeat (go_quiet (fail); try go_wp2)
        go_ret
        exact ⟨chE, chB⟩
       ·replace c31 := Bool.eq_false_iff.mpr c31
        subst c31
        have H1 : (if t468 = true then (laws_FnSamples.j2 kj15 t464 t469 (decide ((t469.size : Int) > 3000))) else (laws_FnSamples.j2 kj15 t464 t469 true)) = some r := by rw [if_neg (show ¬ (false = true) by decide)] at H; exact H
        clear H
        have H := H1
        clear H1
        have HC32 := Aside0.mk H
        clear H
        go_upto_region 12 with (fail)
        repeat (go_quiet (fail); try go_wp2)
        go_cut [72] (fun v72 wc => ∃ (kq : Nat) (x72_31 : Bool), v72 = .bool x72_31 ∧ Aside0 (laws_FnSamples.j2 kq t464 t469 x72_31 = some r) ∧ Aside0 (kq ≤ kj15) ∧ Aside0 (Kd.R k35 35 wc w.heap.size (fun _ => True) (.slice Ao9 t464.length co9) t464) ∧ Aside0 (Below w.heap.size w wc))
        case first =>
         have H := HC32.out
         clear HC32
         by_cases c33 : t468 = true
         ·subst c33
          have H1 : (laws_FnSamples.j2 kj15 t464 t469 (decide ((t469.size : Int) > 3000))) = some r := by rw [if_pos rfl] at H; exact H
          clear H
          have H := H1
          clear H1
          have H' := Aside0.mk H
          clear H
          go_wp2
          repeat (go_quiet (fail); try go_wp2)
          go_meet
          case rel => exact ⟨_, (decide ((t469.size : Int) > 3000)), (by first | rfl | (simp; done) | (simp [*]; done)), H', ⟨by have := HJ6.out; have := HJ15.out; first | omega | exact Nat.le_refl _⟩, ⟨by (with_reducible repeat (first | apply Kd.R_alloc | apply Kd.R_drewN | apply Kd.R_drew)); exact HO_3.out⟩, ⟨chB⟩⟩
         ·replace c33 := Bool.eq_false_iff.mpr c33
          subst c33
          have H1 : (laws_FnSamples.j2 kj15 t464 t469 true) = some r := by rw [if_neg (show ¬ (false = true) by decide)] at H; exact H
          clear H
          have H := H1
          clear H1
          have H' := Aside0.mk H
          clear H
          go_wp2
          repeat (go_quiet (fail); try go_wp2)
          go_meet
          case rel => exact ⟨_, (true), (by first | rfl | (simp; done) | (simp [*]; done)), H', ⟨by have := HJ6.out; have := HJ15.out; first | omega | exact Nat.le_refl _⟩, ⟨by (with_reducible repeat (first | apply Kd.R_alloc | apply Kd.R_drewN | apply Kd.R_drew)); exact HO_3.out⟩, ⟨chB⟩⟩
        case rest =>
         clear HC32
         try clear c1
         try clear c2
         try clear p2
         try clear c3
         try clear c12
         try clear c12b0
         try clear c12b1
         try clear c12b2
         try clear c13
         try clear c20
         try clear c20b0
         try clear c20b1
         try clear c21
         try clear c21b0
         try clear c21b1
         try clear c21b2
         try clear c24
         try clear c31
         try clear c33
         try clear p2
         obtain ⟨kq, x72_31, rfl, HA, HJ31, HO_3, HB⟩ := hcut
         cases kq with
         | zero => exact absurd HA.out (by simp [laws_FnSamples.j2])
         | succ kj31 =>
          have H := HA.out
          clear HA
          simp only [laws_FnSamples.j2] at H
          by_cases c34 : x72_31 = true
          ·subst c34
           have H1 : (some true) = some r := by rw [if_pos rfl] at H; exact H
           clear H
           have H := H1
           clear H1
           obtain rfl := Option.some.inj H
           go_wp2
           repeat (go_quiet (fail); try go_wp2)
           go_ret
           exact ⟨chE, chB⟩
          ·replace c34 := Bool.eq_false_iff.mpr c34
           subst c34
           have H1 : ((impl_ParseScrape.f kj31 t469).bind fun bt482 => ((spec_ParseScrape.f kj31 t469).bind fun bt488 => ((laws_sameSamples.f kj31 bt482.1 bt488.1).bind fun t494 => (if t494 = true then ((laws_same.f kj31 bt482.2 bt488.2).bind fun t495 => (if t495 = true then (laws_FnSamples.j3 kj31 t464 ((wrap64 ((bt482.1.length : Int) + (bt482.2.length : Int))) != (t464.length : Int))) else (laws_FnSamples.j3 kj31 t464 true))) else (laws_FnSamples.j3 kj31 t464 true))))) = some r := by rw [if_neg (show ¬ (false = true) by decide)] at H; exact H
           clear H
           have H := H1
           clear H1
           replace H := Option.bind_eq_some_iff.mp H
           obtain ⟨⟨t482, t483⟩, A350, H⟩ := H
           replace H : ((spec_ParseScrape.f kj31 t469).bind fun bt488 => ((laws_sameSamples.f kj31 t482 bt488.1).bind fun t494 => (if t494 = true then ((laws_same.f kj31 t483 bt488.2).bind fun t495 => (if t495 = true then (laws_FnSamples.j3 kj31 t464 ((wrap64 ((t482.length : Int) + (t483.length : Int))) != (t464.length : Int))) else (laws_FnSamples.j3 kj31 t464 true))) else (laws_FnSamples.j3 kj31 t464 true)))) = some r := H
           have A35 := Aside0.mk A350
           clear A350
           replace H := Option.bind_eq_some_iff.mp H
           obtain ⟨⟨t488, t489⟩, A360, H⟩ := H
           replace H : ((laws_sameSamples.f kj31 t482 t488).bind fun t494 => (if t494 = true then ((laws_same.f kj31 t483 t489).bind fun t495 => (if t495 = true then (laws_FnSamples.j3 kj31 t464 ((wrap64 ((t482.length : Int) + (t483.length : Int))) != (t464.length : Int))) else (laws_FnSamples.j3 kj31 t464 true))) else (laws_FnSamples.j3 kj31 t464 true))) = some r := H
           have A36 := Aside0.mk A360
           clear A360
           have HC37 := Aside0.mk H
           clear H
           go_upto_region 16 with (first | (go_at_call 11; (with_reducible refine (impl_ParseScrape.calls kj31 t469 t482 t483 _ ?side_lay A35.out).mono ?_); (case side_lay => exact LayB.up HT.out chB); rintro e w38 ⟨v484, v486, rfl, ho0, ho1, hb⟩; have n0_ := Aside0.mk (Kd.R_elder' (chR HO_3.out) (Kd.R_base ho0) hb); have n1_ := Aside0.mk (Kd.R_lower (Kd.R_new' ho0 (Kd.R_lt (chR HO_3.out))) (below_size chB)); have n2_ := Aside0.mk (Kd.R_lower ho1 (below_size chB)); have n3_ := Aside0.mk (below_step chB hb); clear HO_3; clear HB; have HO_3 := n0_; have HO485 := n1_; have HO487 := n2_; have HB := n3_; clear n0_ n1_ n2_ n3_; (try clear hb); (try clear hb2); (try clear hk); (try clear hi); (try clear ho0); (try clear ho1)) | (go_at_call 12; (with_reducible refine (spec_ParseScrape.calls kj31 t469 t488 t489 _ A36.out).mono ?_); rintro e w39 ⟨v490, v492, rfl, ho0, ho1, hb⟩; have n0_ := Aside0.mk (Kd.R_elder' (chR HO_3.out) (Kd.R_base ho0) hb); have n1_ := Aside0.mk (Kd.R_elder' (chR HO485.out) (Kd.R_base ho0) hb); have n2_ := Aside0.mk (Kd.R_elder' (chR HO487.out) (Kd.R_base ho1) hb); have n3_ := Aside0.mk (Kd.R_lower (Kd.R_new' (Kd.R_new' ho0 (Kd.R_lt (chR HO_3.out))) (Kd.R_lt (chR HO485.out))) (below_size chB)); have n4_ := Aside0.mk (Kd.R_lower (Kd.R_new' ho1 (Kd.R_lt (chR HO487.out))) (below_size chB)); have n5_ := Aside0.mk (below_step chB hb); clear HO_3; clear HO485; clear HO487; clear HB; have HO_3 := n0_; have HO485 := n1_; have HO487 := n2_; have HO491 := n3_; have HO493 := n4_; have HB := n5_; clear n0_ n1_ n2_ n3_ n4_ n5_; (try clear hb); (try clear hb2); (try clear hk); (try clear hi); (try clear ho0); (try clear ho1)))
           repeat (go_quiet (fail); try go_wp2)
           (try simp only [Act.put, List.setIfInBounds_toArray, List.set_cons_zero, List.set_cons_succ])
           go_cut [102] (fun v102 wc => ∃ (kq : Nat) (x102_36 : Bool), v102 = .bool x102_36 ∧ Aside0 (laws_FnSamples.j3 kq t464 x102_36 = some r) ∧ Aside0 (kq ≤ kj31) ∧ Aside0 (Kd.R k35 35 wc w.heap.size (fun _ => True) (.slice Ao9 t464.length co9) t464) ∧ Aside0 (Below w.heap.size w wc))
           case first =>
            have H := HC37.out
            clear HC37
            replace H := Option.bind_eq_some_iff.mp H
            obtain ⟨t494, A400, H⟩ := H
            replace H : (if t494 = true then ((laws_same.f kj31 t483 t489).bind fun t495 => (if t495 = true then (laws_FnSamples.j3 kj31 t464 ((wrap64 ((t482.length : Int) + (t483.length : Int))) != (t464.length : Int))) else (laws_FnSamples.j3 kj31 t464 true))) else (laws_FnSamples.j3 kj31 t464 true)) = some r := H
            have A40 := Aside0.mk A400
            clear A400
            by_cases c41 : t494 = true
            ·subst c41
             have H1 : ((laws_same.f kj31 t483 t489).bind fun t495 => (if t495 = true then (laws_FnSamples.j3 kj31 t464 ((wrap64 ((t482.length : Int) + (t483.length : Int))) != (t464.length : Int))) else (laws_FnSamples.j3 kj31 t464 true))) = some r := by rw [if_pos rfl] at H; exact H
             clear H
             have H := H1
             clear H1
             replace H := Option.bind_eq_some_iff.mp H
             obtain ⟨t495, A420, H⟩ := H
             replace H : (if t495 = true then (laws_FnSamples.j3 kj31 t464 ((wrap64 ((t482.length : Int) + (t483.length : Int))) != (t464.length : Int))) else (laws_FnSamples.j3 kj31 t464 true)) = some r := H
             have A42 := Aside0.mk A420
             clear A420
             by_cases c43 : t495 = true
             ·subst c43
              have H1 : (laws_FnSamples.j3 kj31 t464 ((wrap64 ((t482.length : Int) + (t483.length : Int))) != (t464.length : Int))) = some r := by rw [if_pos rfl] at H; exact H
              clear H
              have H := H1
              clear H1
              have H' := Aside0.mk H
              clear H
              obtain ⟨Ao44, co44, eo44⟩ := Kd.R_slice HO485.out
              subst eo44
              obtain ⟨Ao45, co45, eo45⟩ := Kd.R_slice HO491.out
              subst eo45
              go_wp2_with (first | (go_at_call 9; (with_reducible refine (laws_sameSamples.calls kj31 _ _ t482 _ _ t488 true _ ?side1 ?side2 ?side3 ?side4 A40.out).mono ?_); (case side1 => repeat (first | exact (Kd.R_reads' HO485.out).2.2 | (with_reducible refine Kd.C_alloc ?_ _) | (with_reducible refine Kd.C_drewN ?_ _) | (with_reducible refine Kd.C_drew ?_))); (case side2 => exact (Kd.R_reads' HO485.out).2.1); (case side3 => repeat (first | exact (Kd.R_reads' HO491.out).2.2 | (with_reducible refine Kd.C_alloc ?_ _) | (with_reducible refine Kd.C_drewN ?_ _) | (with_reducible refine Kd.C_drew ?_))); (case side4 => exact (Kd.R_reads' HO491.out).2.1); rintro e w' ⟨rfl, ⟨nd, rfl⟩⟩; (try first | exact ⟨rfl, _, World.drewN_drewN _ _ _⟩ | exact ⟨rfl, _, Eq.trans (World.drewN_drewN _ _ _) (congrArg (World.drewN _) (Nat.add_assoc _ _ _))⟩); obtain ⟨Ao46, co46, eo46⟩ := Kd.R_slice HO487.out; subst eo46; obtain ⟨Ao47, co47, eo47⟩ := Kd.R_slice HO493.out; subst eo47) | (go_at_call 13; (with_reducible refine (laws_same.calls kj31 _ _ t483 _ _ t489 true _ ?side1 ?side2 ?side3 ?side4 A42.out).mono ?_); (case side1 => repeat (first | exact (Kd.R_reads' HO487.out).2.2 | (with_reducible refine Kd.C_alloc ?_ _) | (with_reducible refine Kd.C_drewN ?_ _) | (with_reducible refine Kd.C_drew ?_))); (case side2 => exact (Kd.R_reads' HO487.out).2.1); (case side3 => repeat (first | exact (Kd.R_reads' HO493.out).2.2 | (with_reducible refine Kd.C_alloc ?_ _) | (with_reducible refine Kd.C_drewN ?_ _) | (with_reducible refine Kd.C_drew ?_))); (case side4 => exact (Kd.R_reads' HO493.out).2.1); rintro e w' ⟨rfl, ⟨nd, rfl⟩⟩; (try first | exact ⟨rfl, _, World.drewN_drewN _ _ _⟩ | exact ⟨rfl, _, Eq.trans (World.drewN_drewN _ _ _) (congrArg (World.drewN _) (Nat.add_assoc _ _ _))⟩)))
              repeat (go_quiet (fail); try go_wp2)
              go_meet
              case rel => exact ⟨_, (((wrap64 ((t482.length : Int) + (t483.length : Int))) != (t464.length : Int))), (by first | rfl | (simp; done) | (simp [*]; done)), H', ⟨by have := HJ6.out; have := HJ15.out; have := HJ31.out; first | omega | exact Nat.le_refl _⟩, ⟨by (with_reducible repeat (first | apply Kd.R_alloc | apply Kd.R_drewN | apply Kd.R_drew)); exact Kd.R_mono HO_3.out (fun _ hk => trivial)⟩, ⟨chB⟩⟩
             ·replace c43 := Bool.eq_false_iff.mpr c43
              subst c43
              have H1 : (laws_FnSamples.j3 kj31 t464 true) = some r := by rw [if_neg (show ¬ (false = true) by decide)] at H; exact H
              clear H
              have H := H1
              clear H1
              have H' := Aside0.mk H
              clear H
              obtain ⟨Ao48, co48, eo48⟩ := Kd.R_slice HO485.out
              subst eo48
              obtain ⟨Ao49, co49, eo49⟩ := Kd.R_slice HO491.out
              subst eo49
              go_wp2_with (first | (go_at_call 9; (with_reducible refine (laws_sameSamples.calls kj31 _ _ t482 _ _ t488 true _ ?side1 ?side2 ?side3 ?side4 A40.out).mono ?_); (case side1 => repeat (first | exact (Kd.R_reads' HO485.out).2.2 | (with_reducible refine Kd.C_alloc ?_ _) | (with_reducible refine Kd.C_drewN ?_ _) | (with_reducible refine Kd.C_drew ?_))); (case side2 => exact (Kd.R_reads' HO485.out).2.1); (case side3 => repeat (first | exact (Kd.R_reads' HO491.out).2.2 | (with_reducible refine Kd.C_alloc ?_ _) | (with_reducible refine Kd.C_drewN ?_ _) | (with_reducible refine Kd.C_drew ?_))); (case side4 => exact (Kd.R_reads' HO491.out).2.1); rintro e w' ⟨rfl, ⟨nd, rfl⟩⟩; (try first | exact ⟨rfl, _, World.drewN_drewN _ _ _⟩ | exact ⟨rfl, _, Eq.trans (World.drewN_drewN _ _ _) (congrArg (World.drewN _) (Nat.add_assoc _ _ _))⟩); obtain ⟨Ao50, co50, eo50⟩ := Kd.R_slice HO487.out; subst eo50; obtain ⟨Ao51, co51, eo51⟩ := Kd.R_slice HO493.out; subst eo51) | (go_at_call 13; (with_reducible refine (laws_same.calls kj31 _ _ t483 _ _ t489 false _ ?side1 ?side2 ?side3 ?side4 A42.out).mono ?_); (case side1 => repeat (first | exact (Kd.R_reads' HO487.out).2.2 | (with_reducible refine Kd.C_alloc ?_ _) | (with_reducible refine Kd.C_drewN ?_ _) | (with_reducible refine Kd.C_drew ?_))); (case side2 => exact (Kd.R_reads' HO487.out).2.1); (case side3 => repeat (first | exact (Kd.R_reads' HO493.out).2.2 | (with_reducible refine Kd.C_alloc ?_ _) | (with_reducible refine Kd.C_drewN ?_ _) | (with_reducible refine Kd.C_drew ?_))); (case side4 => exact (Kd.R_reads' HO493.out).2.1); rintro e w' ⟨rfl, ⟨nd, rfl⟩⟩; (try first | exact ⟨rfl, _, World.drewN_drewN _ _ _⟩ | exact ⟨rfl, _, Eq.trans (World.drewN_drewN _ _ _) (congrArg (World.drewN _) (Nat.add_assoc _ _ _))⟩)))
              repeat (go_quiet (fail); try go_wp2)
              go_meet
              case rel => exact ⟨_, (true), (by first | rfl | (simp; done) | (simp [*]; done)), H', ⟨by have := HJ6.out; have := HJ15.out; have := HJ31.out; first | omega | exact Nat.le_refl _⟩, ⟨by (with_reducible repeat (first | apply Kd.R_alloc | apply Kd.R_drewN | apply Kd.R_drew)); exact Kd.R_mono HO_3.out (fun _ hk => trivial)⟩, ⟨chB⟩⟩
            ·replace c41 := Bool.eq_false_iff.mpr c41
             subst c41
             have H1 : (laws_FnSamples.j3 kj31 t464 true) = some r := by rw [if_neg (show ¬ (false = true) by decide)] at H; exact H
             clear H
             have H := H1
             clear H1
             have H' := Aside0.mk H
             clear H
             obtain ⟨Ao52, co52, eo52⟩ := Kd.R_slice HO485.out
             subst eo52
             obtain ⟨Ao53, co53, eo53⟩ := Kd.R_slice HO491.out
             subst eo53
             go_wp2_with (first | (go_at_call 9; (with_reducible refine (laws_sameSamples.calls kj31 _ _ t482 _ _ t488 false _ ?side1 ?side2 ?side3 ?side4 A40.out).mono ?_); (case side1 => repeat (first | exact (Kd.R_reads' HO485.out).2.2 | (with_reducible refine Kd.C_alloc ?_ _) | (with_reducible refine Kd.C_drewN ?_ _) | (with_reducible refine Kd.C_drew ?_))); (case side2 => exact (Kd.R_reads' HO485.out).2.1); (case side3 => repeat (first | exact (Kd.R_reads' HO491.out).2.2 | (with_reducible refine Kd.C_alloc ?_ _) | (with_reducible refine Kd.C_drewN ?_ _) | (with_reducible refine Kd.C_drew ?_))); (case side4 => exact (Kd.R_reads' HO491.out).2.1); rintro e w' ⟨rfl, ⟨nd, rfl⟩⟩; (try first | exact ⟨rfl, _, World.drewN_drewN _ _ _⟩ | exact ⟨rfl, _, Eq.trans (World.drewN_drewN _ _ _) (congrArg (World.drewN _) (Nat.add_assoc _ _ _))⟩)))
             repeat (go_quiet (fail); try go_wp2)
             go_meet
             case rel => exact ⟨_, (true), (by first | rfl | (simp; done) | (simp [*]; done)), H', ⟨by have := HJ6.out; have := HJ15.out; have := HJ31.out; first | omega | exact Nat.le_refl _⟩, ⟨by (with_reducible repeat (first | apply Kd.R_alloc | apply Kd.R_drewN | apply Kd.R_drew)); exact Kd.R_mono HO_3.out (fun _ hk => trivial)⟩, ⟨chB⟩⟩
           case rest =>
            clear HC37
            try clear c1
            try clear c2
            try clear p2
            try clear c3
            try clear c4
            try clear p6
            try clear c12
            try clear c12b0
            try clear c12b1
            try clear c12b2
            try clear c13
            try clear c20
            try clear c20b0
            try clear c20b1
            try clear c21
            try clear c21b0
            try clear c21b1
            try clear c21b2
            try clear c24
            try clear c31
            try clear c33
            try clear c34
            try clear c41
            try clear c43
            try clear p2
            obtain ⟨kq, x102_36, rfl, HA, HJ36, HO_3, HB⟩ := hcut
            cases kq with
            | zero => exact absurd HA.out (by simp [laws_FnSamples.j3])
            | succ kj36 =>
             have H := HA.out
             clear HA
             simp only [laws_FnSamples.j3] at H
             by_cases c54 : x102_36 = true
             ·subst c54
              have H1 : (some false) = some r := by rw [if_pos rfl] at H; exact H
              clear H
              have H := H1
              clear H1
              obtain rfl := Option.some.inj H
              go_wp2
              repeat (go_quiet (fail); try go_wp2)
              go_ret
              exact ⟨chE, chB⟩
             ·replace c54 := Bool.eq_false_iff.mpr c54
              subst c54
              have H1 : (laws_FnSamples.l0 kj36 t464 0) = some r := by rw [if_neg (show ¬ (false = true) by decide)] at H; exact H
              clear H
              have H := H1
              clear H1
              have H' := Aside0.mk H
              clear H
              go_wp2
              repeat (go_quiet (fail); try go_wp2)
              go_loopg [14] kj36 (fun kq v14 w' => ∃ (x14_5 : Int), v14 = .int .i64 x14_5 ∧ Aside0 (laws_FnSamples.l0 kq t464 x14_5 = some r) ∧ Aside0 (kq ≤ kj36) ∧ Aside0 (Kd.R k35 35 w' w.heap.size (fun _ => True) (.slice Ao9 t464.length co9) t464) ∧ Aside0 (Below w.heap.size w w'))
              case atStart => exact ⟨(0), (by first | rfl | (simp; done) | (simp [*]; done)), H', ⟨Nat.le_refl _⟩, ⟨by (with_reducible repeat (first | apply Kd.R_alloc | apply Kd.R_drewN | apply Kd.R_drew)); exact HO_3.out⟩, ⟨chB⟩⟩
              case round =>
               clear H'
               try clear c1
               try clear c2
               try clear p2
               try clear c3
               try clear c4
               try clear c5
               try clear p6
               try clear c12
               try clear c12b0
               try clear c12b1
               try clear c12b2
               try clear c13
               try clear c20
               try clear c20b0
               try clear c20b1
               try clear c21
               try clear c21b0
               try clear c21b1
               try clear c21b2
               try clear c24
               try clear c31
               try clear c33
               try clear c34
               try clear c41
               try clear c43
               try clear c54
               try clear p2
               try clear p6
               obtain ⟨x14_5, rfl, HA, HK5, HO_3, HB⟩ := hrel
               cases gk with
               | zero => exact absurd HA.out (by simp [laws_FnSamples.l0])
               | succ k5 =>
                have H := HA.out
                clear HA
                simp only [laws_FnSamples.l0] at H
                by_cases c55 : x14_5 < (t464.length : Int)
                ·rw [if_pos c55] at H
                 have c55b0 : decide (x14_5 < (t464.length : Int)) = true := decide_eq_true c55
                 clear c55
                 by_cases c56 : 0 ≤ x14_5
                 ·rw [if_pos c56] at H
                  have c56b0 : decide (0 ≤ x14_5) = true := decide_eq_true c56
                  clear c56
                  replace H := Option.bind_eq_some_iff.mp H
                  obtain ⟨t497, A570, H⟩ := H
                  replace H : ((impl_ParseSample.f k5 t497).bind fun bt498 => (if bt498.2.2.2.2 = true then (if (!(bt498.1.toList == (((rd_T35 t464 x14_5).f0).toList)) || (!(bt498.2.1.toList == (((rd_T35 t464 x14_5).f1).toList)) || (!(bt498.2.2.1 == ((rd_T35 t464 x14_5).f2)) || (!(bt498.2.2.2.1 == ((rd_T35 t464 x14_5).f3)))))) = true then (some false) else (laws_FnSamples.l0 k5 t464 (wrap64 (x14_5 + 1)))) else (some false))) = some r := H
                  have A57 := Aside0.mk A570
                  clear A570
                  replace H := Option.bind_eq_some_iff.mp H
                  obtain ⟨⟨t498, t499, t500, t501, t502⟩, A580, H⟩ := H
                  replace H : (if t502 = true then (if (!(t498.toList == (((rd_T35 t464 x14_5).f0).toList)) || (!(t499.toList == (((rd_T35 t464 x14_5).f1).toList)) || (!(t500 == ((rd_T35 t464 x14_5).f2)) || (!(t501 == ((rd_T35 t464 x14_5).f3)))))) = true then (some false) else (laws_FnSamples.l0 k5 t464 (wrap64 (x14_5 + 1)))) else (some false)) = some r := H
                  have A58 := Aside0.mk A580
                  clear A580
                  by_cases c59 : t502 = true
                  ·subst c59
                   have H1 : (if (!(t498.toList == (((rd_T35 t464 x14_5).f0).toList)) || (!(t499.toList == (((rd_T35 t464 x14_5).f1).toList)) || (!(t500 == ((rd_T35 t464 x14_5).f2)) || (!(t501 == ((rd_T35 t464 x14_5).f3)))))) = true then (some false) else (laws_FnSamples.l0 k5 t464 (wrap64 (x14_5 + 1)))) = some r := by rw [if_pos rfl] at H; exact H
                   clear H
                   have H := H1
                   clear H1
                   by_cases c60 : (!(t498.toList == (((rd_T35 t464 x14_5).f0).toList)) || (!(t499.toList == (((rd_T35 t464 x14_5).f1).toList)) || (!(t500 == ((rd_T35 t464 x14_5).f2)) || (!(t501 == ((rd_T35 t464 x14_5).f3)))))) = true
                   ·rw [if_pos c60] at H
                    have c60b0 : (!(t498.toList == (((rd_T35 t464 x14_5).f0).toList)) || (!(t499.toList == (((rd_T35 t464 x14_5).f1).toList)) || (!(t500 == ((rd_T35 t464 x14_5).f2)) || (!(t501 == ((rd_T35 t464 x14_5).f3)))))) = true := c60
                    clear c60
                    obtain rfl := Option.some.inj H
                    have p496 : 0 ≤ (x14_5 : Int) := of_decide_eq_true chA
                    have q496 : x14_5 < (t464.length : Int) := of_decide_eq_true chA
                    obtain ⟨ad496, e496, hx496_0, hx496_1, hx496_2, hx496_3⟩ := at_T35 (Kd.R_reads' HO_3.out).2.2 x14_5 p496 q496
                    cases e496
                    replace p496 := eq_true p496
                    replace q496 := eq_true q496
                    go_wp2_with (first | (go_at_call 15; (with_reducible refine (impl_SampleLine.calls k5 ((rd_T35 t464 x14_5).f0) ((rd_T35 t464 x14_5).f1) ((rd_T35 t464 x14_5).f2) ((rd_T35 t464 x14_5).f3) t497 _ ?side_lay A57.out).mono ?_); (case side_lay => exact LayB.up HT.out chB); rintro e w61 ⟨rfl, hb⟩; have n0_ := Aside0.mk (Kd.R_below (chR HO_3.out) hb); have n1_ := Aside0.mk (below_step chB hb); clear HO_3; clear HB; have HO_3 := n0_; have HB := n1_; clear n0_ n1_; (try clear hb); (try clear hb2); (try clear hk); (try clear hi)) | (go_at_call 14; (with_reducible refine (impl_ParseSample.calls k5 t497 t498 t499 t500 t501 true _ ?side_lay A58.out).mono ?_); (case side_lay => exact LayB.up HT.out chB); rintro e w62 ⟨rfl, hb⟩; have n0_ := Aside0.mk (Kd.R_below (chR HO_3.out) hb); have n1_ := Aside0.mk (below_step chB hb); clear HO_3; clear HB; have HO_3 := n0_; have HB := n1_; clear n0_ n1_; (try clear hb); (try clear hb2); (try clear hk); (try clear hi)) | ((with_reducible refine gate_dst (N := 15) rfl ?_); (try (refine gate_guard (by rfl) ?_; dsimp only)); refine box_event ?hg (N := 15) ?hd (cs := #[.string (⟨#[]⟩ : ByteArray), .string (⟨#[]⟩ : ByteArray), .int .i64 0, .int .i64 0]) (t := 35) ?hr ?_; (case hd => rfl); (case hg => rfl); (case hr => first | (go_simp; done) | (go_simp; rfl)); intro gb503 hg w63 hbox hb; have n0_ := Aside0.mk (Kd.R_below (Kd.R_elderB (chR HO_3.out) gb503 (Nat.le_of_eq hg.symm)) hb); have n1_ := Aside0.mk (below_step chB hb); have n2_ := Aside0.mk (hbox); have n3_ := Aside0.mk ((by rw [hg]; exact (below_size chB) : w.heap.size ≤ gb503)); have n4_ := Aside0.mk ((by rw [hg]; exact (below_size chB) : w.heap.size ≤ gb503)); clear HO_3; clear HB; have HO_3 := n0_; have HB := n1_; have BK503 := n2_; have GW503 := n3_; have GE503 := n4_; clear n0_ n1_ n2_ n3_ n4_; clear hb hbox hg; obtain ⟨hcz64_0, hcz64_1, hcz64_2, hcz64_3, hfz64_0, hfz64_1, hfz64_2, hfz64_3⟩ := blk4 BK503.out; have p504 : 0 ≤ (x14_5 : Int) := of_decide_eq_true chA; have q504 : x14_5 < (t464.length : Int) := of_decide_eq_true chA; obtain ⟨ad504, e504, hx504_0, hx504_1, hx504_2, hx504_3⟩ := at_T35 (Kd.R_reads' HO_3.out).2.2 x14_5 p504 q504; obtain rfl : ad496 = ad504 := (by injection e504); have hn504_0 : ad496.block ≠ gb503 := (HO_3.out.1 ad496.block rfl).2; have hn504_1 : ad496.block ≠ gb503 := (HO_3.out.1 ad496.block rfl).2; have hn504_2 : ad496.block ≠ gb503 := (HO_3.out.1 ad496.block rfl).2; have hn504_3 : ad496.block ≠ gb503 := (HO_3.out.1 ad496.block rfl).2; replace hx504_0 := (cell_far (p := ⟨gb503, 0, none⟩) (by first | (rw [add_block]; exact hn504_0) | (show (Addr.add _ _).block ≠ _; rw [add_block]; exact hn504_0) | exact hn504_0) (.string t498)).trans hx504_0; replace hx504_1 := (cell_far (p := ⟨gb503, 0, none⟩) (by first | (rw [add_block]; exact hn504_0) | (show (Addr.add _ _).block ≠ _; rw [add_block]; exact hn504_0) | exact hn504_0) (.string t498)).trans hx504_1; replace hx504_2 := (cell_far (p := ⟨gb503, 0, none⟩) (by first | (rw [add_block]; exact hn504_0) | (show (Addr.add _ _).block ≠ _; rw [add_block]; exact hn504_0) | exact hn504_0) (.string t498)).trans hx504_2; replace hx504_3 := (cell_far (p := ⟨gb503, 0, none⟩) (by first | (rw [add_block]; exact hn504_0) | (show (Addr.add _ _).block ≠ _; rw [add_block]; exact hn504_0) | exact hn504_0) (.string t498)).trans hx504_3; replace hx504_0 := (cell_far (p := ⟨gb503, 1, none⟩) (by first | (rw [add_block]; exact hn504_1) | (show (Addr.add _ _).block ≠ _; rw [add_block]; exact hn504_1) | exact hn504_1) (.string t499)).trans hx504_0; replace hx504_1 := (cell_far (p := ⟨gb503, 1, none⟩) (by first | (rw [add_block]; exact hn504_1) | (show (Addr.add _ _).block ≠ _; rw [add_block]; exact hn504_1) | exact hn504_1) (.string t499)).trans hx504_1; replace hx504_2 := (cell_far (p := ⟨gb503, 1, none⟩) (by first | (rw [add_block]; exact hn504_1) | (show (Addr.add _ _).block ≠ _; rw [add_block]; exact hn504_1) | exact hn504_1) (.string t499)).trans hx504_2; replace hx504_3 := (cell_far (p := ⟨gb503, 1, none⟩) (by first | (rw [add_block]; exact hn504_1) | (show (Addr.add _ _).block ≠ _; rw [add_block]; exact hn504_1) | exact hn504_1) (.string t499)).trans hx504_3; replace hx504_0 := (cell_far (p := ⟨gb503, 2, none⟩) (by first | (rw [add_block]; exact hn504_2) | (show (Addr.add _ _).block ≠ _; rw [add_block]; exact hn504_2) | exact hn504_2) (.int .i64 t500)).trans hx504_0; replace hx504_1 := (cell_far (p := ⟨gb503, 2, none⟩) (by first | (rw [add_block]; exact hn504_2) | (show (Addr.add _ _).block ≠ _; rw [add_block]; exact hn504_2) | exact hn504_2) (.int .i64 t500)).trans hx504_1; replace hx504_2 := (cell_far (p := ⟨gb503, 2, none⟩) (by first | (rw [add_block]; exact hn504_2) | (show (Addr.add _ _).block ≠ _; rw [add_block]; exact hn504_2) | exact hn504_2) (.int .i64 t500)).trans hx504_2; replace hx504_3 := (cell_far (p := ⟨gb503, 2, none⟩) (by first | (rw [add_block]; exact hn504_2) | (show (Addr.add _ _).block ≠ _; rw [add_block]; exact hn504_2) | exact hn504_2) (.int .i64 t500)).trans hx504_3; replace hx504_0 := (cell_far (p := ⟨gb503, 3, none⟩) (by first | (rw [add_block]; exact hn504_3) | (show (Addr.add _ _).block ≠ _; rw [add_block]; exact hn504_3) | exact hn504_3) (.int .i64 t501)).trans hx504_0; replace hx504_1 := (cell_far (p := ⟨gb503, 3, none⟩) (by first | (rw [add_block]; exact hn504_3) | (show (Addr.add _ _).block ≠ _; rw [add_block]; exact hn504_3) | exact hn504_3) (.int .i64 t501)).trans hx504_1; replace hx504_2 := (cell_far (p := ⟨gb503, 3, none⟩) (by first | (rw [add_block]; exact hn504_3) | (show (Addr.add _ _).block ≠ _; rw [add_block]; exact hn504_3) | exact hn504_3) (.int .i64 t501)).trans hx504_2; replace hx504_3 := (cell_far (p := ⟨gb503, 3, none⟩) (by first | (rw [add_block]; exact hn504_3) | (show (Addr.add _ _).block ≠ _; rw [add_block]; exact hn504_3) | exact hn504_3) (.int .i64 t501)).trans hx504_3; (try have hy504_0 := fun (n_ : Nat) => (show ((((((w63.drewN n_).setCell ⟨gb503, 0, none⟩ (.string t498)).setCell ⟨gb503, 1, none⟩ (.string t499)).setCell ⟨gb503, 2, none⟩ (.int .i64 t500)).setCell ⟨gb503, 3, none⟩ (.int .i64 t501))).cell? _ = some _ from hx504_0)); (try have hy504_1 := fun (n_ : Nat) => (show ((((((w63.drewN n_).setCell ⟨gb503, 0, none⟩ (.string t498)).setCell ⟨gb503, 1, none⟩ (.string t499)).setCell ⟨gb503, 2, none⟩ (.int .i64 t500)).setCell ⟨gb503, 3, none⟩ (.int .i64 t501))).cell? _ = some _ from hx504_1)); (try have hy504_2 := fun (n_ : Nat) => (show ((((((w63.drewN n_).setCell ⟨gb503, 0, none⟩ (.string t498)).setCell ⟨gb503, 1, none⟩ (.string t499)).setCell ⟨gb503, 2, none⟩ (.int .i64 t500)).setCell ⟨gb503, 3, none⟩ (.int .i64 t501))).cell? _ = some _ from hx504_2)); (try have hy504_3 := fun (n_ : Nat) => (show ((((((w63.drewN n_).setCell ⟨gb503, 0, none⟩ (.string t498)).setCell ⟨gb503, 1, none⟩ (.string t499)).setCell ⟨gb503, 2, none⟩ (.int .i64 t500)).setCell ⟨gb503, 3, none⟩ (.int .i64 t501))).cell? _ = some _ from hx504_3)); clear hn504_0; clear hn504_1; clear hn504_2; clear hn504_3; replace p504 := eq_true p504; replace q504 := eq_true q504))
                    repeat (go_quiet (fail); try go_wp2)
                    go_ret
                    exact ⟨chE, chG⟩
                   ·rw [if_neg c60] at H
                    have c60b0 : (!(t498.toList == (((rd_T35 t464 x14_5).f0).toList)) || (!(t499.toList == (((rd_T35 t464 x14_5).f1).toList)) || (!(t500 == ((rd_T35 t464 x14_5).f2)) || (!(t501 == ((rd_T35 t464 x14_5).f3)))))) = false := by simpa using c60
                    clear c60
                    have H' := Aside0.mk H
                    clear H
                    have p496 : 0 ≤ (x14_5 : Int) := of_decide_eq_true chA
                    have q496 : x14_5 < (t464.length : Int) := of_decide_eq_true chA
                    obtain ⟨ad496, e496, hx496_0, hx496_1, hx496_2, hx496_3⟩ := at_T35 (Kd.R_reads' HO_3.out).2.2 x14_5 p496 q496
                    cases e496
                    replace p496 := eq_true p496
                    replace q496 := eq_true q496
                    go_wp2_with (first | (go_at_call 15; (with_reducible refine (impl_SampleLine.calls k5 ((rd_T35 t464 x14_5).f0) ((rd_T35 t464 x14_5).f1) ((rd_T35 t464 x14_5).f2) ((rd_T35 t464 x14_5).f3) t497 _ ?side_lay A57.out).mono ?_); (case side_lay => exact LayB.up HT.out chB); rintro e w65 ⟨rfl, hb⟩; have n0_ := Aside0.mk (Kd.R_below (chR HO_3.out) hb); have n1_ := Aside0.mk (below_step chB hb); clear HO_3; clear HB; have HO_3 := n0_; have HB := n1_; clear n0_ n1_; (try clear hb); (try clear hb2); (try clear hk); (try clear hi)) | (go_at_call 14; (with_reducible refine (impl_ParseSample.calls k5 t497 t498 t499 t500 t501 true _ ?side_lay A58.out).mono ?_); (case side_lay => exact LayB.up HT.out chB); rintro e w66 ⟨rfl, hb⟩; have n0_ := Aside0.mk (Kd.R_below (chR HO_3.out) hb); have n1_ := Aside0.mk (below_step chB hb); clear HO_3; clear HB; have HO_3 := n0_; have HB := n1_; clear n0_ n1_; (try clear hb); (try clear hb2); (try clear hk); (try clear hi)) | ((with_reducible refine gate_dst (N := 15) rfl ?_); (try (refine gate_guard (by rfl) ?_; dsimp only)); refine box_event ?hg (N := 15) ?hd (cs := #[.string (⟨#[]⟩ : ByteArray), .string (⟨#[]⟩ : ByteArray), .int .i64 0, .int .i64 0]) (t := 35) ?hr ?_; (case hd => rfl); (case hg => rfl); (case hr => first | (go_simp; done) | (go_simp; rfl)); intro gb503 hg w67 hbox hb; have n0_ := Aside0.mk (Kd.R_below (Kd.R_elderB (chR HO_3.out) gb503 (Nat.le_of_eq hg.symm)) hb); have n1_ := Aside0.mk (below_step chB hb); have n2_ := Aside0.mk (hbox); have n3_ := Aside0.mk ((by rw [hg]; exact (below_size chB) : w.heap.size ≤ gb503)); have n4_ := Aside0.mk ((by rw [hg]; exact (below_size chB) : w.heap.size ≤ gb503)); clear HO_3; clear HB; have HO_3 := n0_; have HB := n1_; have BK503 := n2_; have GW503 := n3_; have GE503 := n4_; clear n0_ n1_ n2_ n3_ n4_; clear hb hbox hg; obtain ⟨hcz68_0, hcz68_1, hcz68_2, hcz68_3, hfz68_0, hfz68_1, hfz68_2, hfz68_3⟩ := blk4 BK503.out; have p504 : 0 ≤ (x14_5 : Int) := of_decide_eq_true chA; have q504 : x14_5 < (t464.length : Int) := of_decide_eq_true chA; obtain ⟨ad504, e504, hx504_0, hx504_1, hx504_2, hx504_3⟩ := at_T35 (Kd.R_reads' HO_3.out).2.2 x14_5 p504 q504; obtain rfl : ad496 = ad504 := (by injection e504); have hn504_0 : ad496.block ≠ gb503 := (HO_3.out.1 ad496.block rfl).2; have hn504_1 : ad496.block ≠ gb503 := (HO_3.out.1 ad496.block rfl).2; have hn504_2 : ad496.block ≠ gb503 := (HO_3.out.1 ad496.block rfl).2; have hn504_3 : ad496.block ≠ gb503 := (HO_3.out.1 ad496.block rfl).2; replace hx504_0 := (cell_far (p := ⟨gb503, 0, none⟩) (by first | (rw [add_block]; exact hn504_0) | (show (Addr.add _ _).block ≠ _; rw [add_block]; exact hn504_0) | exact hn504_0) (.string t498)).trans hx504_0; replace hx504_1 := (cell_far (p := ⟨gb503, 0, none⟩) (by first | (rw [add_block]; exact hn504_0) | (show (Addr.add _ _).block ≠ _; rw [add_block]; exact hn504_0) | exact hn504_0) (.string t498)).trans hx504_1; replace hx504_2 := (cell_far (p := ⟨gb503, 0, none⟩) (by first | (rw [add_block]; exact hn504_0) | (show (Addr.add _ _).block ≠ _; rw [add_block]; exact hn504_0) | exact hn504_0) (.string t498)).trans hx504_2; replace hx504_3 := (cell_far (p := ⟨gb503, 0, none⟩) (by first | (rw [add_block]; exact hn504_0) | (show (Addr.add _ _).block ≠ _; rw [add_block]; exact hn504_0) | exact hn504_0) (.string t498)).trans hx504_3; replace hx504_0 := (cell_far (p := ⟨gb503, 1, none⟩) (by first | (rw [add_block]; exact hn504_1) | (show (Addr.add _ _).block ≠ _; rw [add_block]; exact hn504_1) | exact hn504_1) (.string t499)).trans hx504_0; replace hx504_1 := (cell_far (p := ⟨gb503, 1, none⟩) (by first | (rw [add_block]; exact hn504_1) | (show (Addr.add _ _).block ≠ _; rw [add_block]; exact hn504_1) | exact hn504_1) (.string t499)).trans hx504_1; replace hx504_2 := (cell_far (p := ⟨gb503, 1, none⟩) (by first | (rw [add_block]; exact hn504_1) | (show (Addr.add _ _).block ≠ _; rw [add_block]; exact hn504_1) | exact hn504_1) (.string t499)).trans hx504_2; replace hx504_3 := (cell_far (p := ⟨gb503, 1, none⟩) (by first | (rw [add_block]; exact hn504_1) | (show (Addr.add _ _).block ≠ _; rw [add_block]; exact hn504_1) | exact hn504_1) (.string t499)).trans hx504_3; replace hx504_0 := (cell_far (p := ⟨gb503, 2, none⟩) (by first | (rw [add_block]; exact hn504_2) | (show (Addr.add _ _).block ≠ _; rw [add_block]; exact hn504_2) | exact hn504_2) (.int .i64 t500)).trans hx504_0; replace hx504_1 := (cell_far (p := ⟨gb503, 2, none⟩) (by first | (rw [add_block]; exact hn504_2) | (show (Addr.add _ _).block ≠ _; rw [add_block]; exact hn504_2) | exact hn504_2) (.int .i64 t500)).trans hx504_1; replace hx504_2 := (cell_far (p := ⟨gb503, 2, none⟩) (by first | (rw [add_block]; exact hn504_2) | (show (Addr.add _ _).block ≠ _; rw [add_block]; exact hn504_2) | exact hn504_2) (.int .i64 t500)).trans hx504_2; replace hx504_3 := (cell_far (p := ⟨gb503, 2, none⟩) (by first | (rw [add_block]; exact hn504_2) | (show (Addr.add _ _).block ≠ _; rw [add_block]; exact hn504_2) | exact hn504_2) (.int .i64 t500)).trans hx504_3; replace hx504_0 := (cell_far (p := ⟨gb503, 3, none⟩) (by first | (rw [add_block]; exact hn504_3) | (show (Addr.add _ _).block ≠ _; rw [add_block]; exact hn504_3) | exact hn504_3) (.int .i64 t501)).trans hx504_0; replace hx504_1 := (cell_far (p := ⟨gb503, 3, none⟩) (by first | (rw [add_block]; exact hn504_3) | (show (Addr.add _ _).block ≠ _; rw [add_block]; exact hn504_3) | exact hn504_3) (.int .i64 t501)).trans hx504_1; replace hx504_2 := (cell_far (p := ⟨gb503, 3, none⟩) (by first | (rw [add_block]; exact hn504_3) | (show (Addr.add _ _).block ≠ _; rw [add_block]; exact hn504_3) | exact hn504_3) (.int .i64 t501)).trans hx504_2; replace hx504_3 := (cell_far (p := ⟨gb503, 3, none⟩) (by first | (rw [add_block]; exact hn504_3) | (show (Addr.add _ _).block ≠ _; rw [add_block]; exact hn504_3) | exact hn504_3) (.int .i64 t501)).trans hx504_3; (try have hy504_0 := fun (n_ : Nat) => (show ((((((w67.drewN n_).setCell ⟨gb503, 0, none⟩ (.string t498)).setCell ⟨gb503, 1, none⟩ (.string t499)).setCell ⟨gb503, 2, none⟩ (.int .i64 t500)).setCell ⟨gb503, 3, none⟩ (.int .i64 t501))).cell? _ = some _ from hx504_0)); (try have hy504_1 := fun (n_ : Nat) => (show ((((((w67.drewN n_).setCell ⟨gb503, 0, none⟩ (.string t498)).setCell ⟨gb503, 1, none⟩ (.string t499)).setCell ⟨gb503, 2, none⟩ (.int .i64 t500)).setCell ⟨gb503, 3, none⟩ (.int .i64 t501))).cell? _ = some _ from hx504_1)); (try have hy504_2 := fun (n_ : Nat) => (show ((((((w67.drewN n_).setCell ⟨gb503, 0, none⟩ (.string t498)).setCell ⟨gb503, 1, none⟩ (.string t499)).setCell ⟨gb503, 2, none⟩ (.int .i64 t500)).setCell ⟨gb503, 3, none⟩ (.int .i64 t501))).cell? _ = some _ from hx504_2)); (try have hy504_3 := fun (n_ : Nat) => (show ((((((w67.drewN n_).setCell ⟨gb503, 0, none⟩ (.string t498)).setCell ⟨gb503, 1, none⟩ (.string t499)).setCell ⟨gb503, 2, none⟩ (.int .i64 t500)).setCell ⟨gb503, 3, none⟩ (.int .i64 t501))).cell? _ = some _ from hx504_3)); clear hn504_0; clear hn504_1; clear hn504_2; clear hn504_3; replace p504 := eq_true p504; replace q504 := eq_true q504))
                    repeat (go_quiet (fail); try go_wp2)
                    go_roundg k5
                    case measure => have := HJ6.out; have := HJ15.out; have := HJ31.out; have := HJ36.out; have := HK5.out; omega
                    case rel => exact ⟨(wrap64 (x14_5 + 1)), (by first | rfl | (simp; done) | (simp [*]; done)), H', ⟨by have := HJ6.out; have := HJ15.out; have := HJ31.out; have := HJ36.out; have := HK5.out; omega⟩, ⟨by (with_reducible repeat (first | apply Kd.R_alloc | apply Kd.R_drewN | apply Kd.R_drew)); exact Kd.R_mono (Kd.R_far (p := ⟨gb503, 3, none⟩) (Kd.R_far (p := ⟨gb503, 2, none⟩) (Kd.R_far (p := ⟨gb503, 1, none⟩) (Kd.R_far (p := ⟨gb503, 0, none⟩) (Kd.R_mono HO_3.out (fun k_ hk => (⟨hk, hk.2⟩ : _ ∧ k_ ≠ gb503))) (fun _ hk => hk.2) (.string t498)) (fun _ hk => hk.2) (.string t499)) (fun _ hk => hk.2) (.int .i64 t500)) (fun _ hk => hk.2) (.int .i64 t501)) (fun _ hk => trivial)⟩, ⟨chG⟩⟩
                  ·replace c59 := Bool.eq_false_iff.mpr c59
                   subst c59
                   have H1 : (some false) = some r := by rw [if_neg (show ¬ (false = true) by decide)] at H; exact H
                   clear H
                   have H := H1
                   clear H1
                   obtain rfl := Option.some.inj H
                   have p496 : 0 ≤ (x14_5 : Int) := of_decide_eq_true chA
                   have q496 : x14_5 < (t464.length : Int) := of_decide_eq_true chA
                   obtain ⟨ad496, e496, hx496_0, hx496_1, hx496_2, hx496_3⟩ := at_T35 (Kd.R_reads' HO_3.out).2.2 x14_5 p496 q496
                   cases e496
                   replace p496 := eq_true p496
                   replace q496 := eq_true q496
                   go_wp2_with (first | (go_at_call 15; (with_reducible refine (impl_SampleLine.calls k5 ((rd_T35 t464 x14_5).f0) ((rd_T35 t464 x14_5).f1) ((rd_T35 t464 x14_5).f2) ((rd_T35 t464 x14_5).f3) t497 _ ?side_lay A57.out).mono ?_); (case side_lay => exact LayB.up HT.out chB); rintro e w69 ⟨rfl, hb⟩; have n0_ := Aside0.mk (Kd.R_below (chR HO_3.out) hb); have n1_ := Aside0.mk (below_step chB hb); clear HO_3; clear HB; have HO_3 := n0_; have HB := n1_; clear n0_ n1_; (try clear hb); (try clear hb2); (try clear hk); (try clear hi)) | (go_at_call 14; (with_reducible refine (impl_ParseSample.calls k5 t497 t498 t499 t500 t501 false _ ?side_lay A58.out).mono ?_); (case side_lay => exact LayB.up HT.out chB); rintro e w70 ⟨rfl, hb⟩; have n0_ := Aside0.mk (Kd.R_below (chR HO_3.out) hb); have n1_ := Aside0.mk (below_step chB hb); clear HO_3; clear HB; have HO_3 := n0_; have HB := n1_; clear n0_ n1_; (try clear hb); (try clear hb2); (try clear hk); (try clear hi)) | ((with_reducible refine gate_dst (N := 15) rfl ?_); (try (refine gate_guard (by rfl) ?_; dsimp only)); refine box_event ?hg (N := 15) ?hd (cs := #[.string (⟨#[]⟩ : ByteArray), .string (⟨#[]⟩ : ByteArray), .int .i64 0, .int .i64 0]) (t := 35) ?hr ?_; (case hd => rfl); (case hg => rfl); (case hr => first | (go_simp; done) | (go_simp; rfl)); intro gb503 hg w71 hbox hb; have n0_ := Aside0.mk (Kd.R_below (Kd.R_elderB (chR HO_3.out) gb503 (Nat.le_of_eq hg.symm)) hb); have n1_ := Aside0.mk (below_step chB hb); have n2_ := Aside0.mk (hbox); have n3_ := Aside0.mk ((by rw [hg]; exact (below_size chB) : w.heap.size ≤ gb503)); have n4_ := Aside0.mk ((by rw [hg]; exact (below_size chB) : w.heap.size ≤ gb503)); clear HO_3; clear HB; have HO_3 := n0_; have HB := n1_; have BK503 := n2_; have GW503 := n3_; have GE503 := n4_; clear n0_ n1_ n2_ n3_ n4_; clear hb hbox hg; obtain ⟨hcz72_0, hcz72_1, hcz72_2, hcz72_3, hfz72_0, hfz72_1, hfz72_2, hfz72_3⟩ := blk4 BK503.out))
                   repeat (go_quiet (fail); try go_wp2)
                   go_ret
                   exact ⟨chE, chG⟩
                 ·rw [if_neg c56] at H
                  exact absurd H (by simp)
                ·rw [if_neg c55] at H
                 have c55b0 : decide (x14_5 < (t464.length : Int)) = false := decide_eq_false c55
                 clear c55
                 obtain rfl := Option.some.inj H
                 go_wp2
                 repeat (go_quiet (fail); try go_wp2)
                 go_ret
                 exact ⟨chE, chB⟩
end Go.Proofs.YtbbnlagdahickaaGreatDoor.PFnSamples
