/- What the Go functions impl.linesOf, impl.Sample, impl.ParseScrape, spec.l01Parts, spec.l02Lines compute, as Lean functions, and the proof that each call comes to just that. Conditions: those at each theorem. -/
import Derived.Test.YtbbnlagdahickaaGreatDoorHasS
import Derived.Test.YtbbnlagdahickaaGreatDoorOFnSamplesx0
import Derived.Test.YtbbnlagdahickaaGreatDoorOFnSamplesx7
import Derived.Test.YtbbnlagdahickaaGreatDoorOFnSamplesx9
namespace Go.Proofs.YtbbnlagdahickaaGreatDoor.PFnSamples
open Go.RowKit Go.Proofs.YtbbnlagdahickaaGreatDoorW.PrintWords Go.Proofs.YtbbnlagdahickaaGreatDoorW.PrintLast Go.Proofs.YtbbnlagdahickaaGreatDoorW.PrintMore
attribute [local go_sem] max2_int min2_int max_two min_two max_three min_three max_four min_four   -- for this text's walks alone
set_option linter.unusedVariables false
set_option linter.unusedSimpArgs false
/-! ### impl_linesOf: function 28 -/
def impl_linesOf.f (a0 : ByteArray) : Option (List ByteArray) := (strings_Split.f a0 (⟨#[10]⟩ : ByteArray)).bind fun t362 => (if 0 ≤ (wrap64 ((t362.length : Int) - 1)) then (if (wrap64 ((t362.length : Int) - 1)) < (t362.length : Int) then (if (rdOf ByteArray.empty t362 (wrap64 ((t362.length : Int) - 1))).toList = ([] : List UInt8) then (if (wrap64 ((t362.length : Int) - 1)) ≤ (t362.length : Int) then (some (t362.take ((wrap64 ((t362.length : Int) - 1)) : Int).toNat)) else (none)) else (some t362)) else (none)) else (none))
set_option maxHeartbeats 8000000 in
set_option maxRecDepth 100000 in
theorem impl_linesOf.calls (a0 : ByteArray) (r : List ByteArray) (w : World) (HT0 : LayB w) (h : impl_linesOf.f a0 = some r) :
  Calls Tryz.prog 28 #[.string a0] w fun e w' => ∃ v0_ : Value, e = .returned (v0_) ∧ Kd.R Kd.string 9 w' w.heap.size (fun _ => True) v0_ r ∧ Below w.heap.size w w' := by
 have HT := Aside0.mk HT0
 clear HT0
 have HB := Aside0.mk (Below.refl w.heap.size w)
 have H : ((strings_Split.f a0 (⟨#[10]⟩ : ByteArray)).bind fun t362 => (if 0 ≤ (wrap64 ((t362.length : Int) - 1)) then (if (wrap64 ((t362.length : Int) - 1)) < (t362.length : Int) then (if (rdOf ByteArray.empty t362 (wrap64 ((t362.length : Int) - 1))).toList = ([] : List UInt8) then (if (wrap64 ((t362.length : Int) - 1)) ≤ (t362.length : Int) then (some (t362.take ((wrap64 ((t362.length : Int) - 1)) : Int).toNat)) else (none)) else (some t362)) else (none)) else (none))) = some r := h
 clear h
 replace H := Option.bind_eq_some_iff.mp H
 obtain ⟨t362, A20, H⟩ := H
 replace H : (if 0 ≤ (wrap64 ((t362.length : Int) - 1)) then (if (wrap64 ((t362.length : Int) - 1)) < (t362.length : Int) then (if (rdOf ByteArray.empty t362 (wrap64 ((t362.length : Int) - 1))).toList = ([] : List UInt8) then (if (wrap64 ((t362.length : Int) - 1)) ≤ (t362.length : Int) then (some (t362.take ((wrap64 ((t362.length : Int) - 1)) : Int).toNat)) else (none)) else (some t362)) else (none)) else (none)) = some r := H
 have A2 := Aside0.mk A20
 clear A20
 obtain ⟨ji3, hji3⟩ : ∃ j_ : Int, (wrap64 ((t362.length : Int) - 1)) = j_ := ⟨_, rfl⟩
 replace H : (if 0 ≤ (ji3) then (if (ji3) < (t362.length : Int) then (if (rdOf ByteArray.empty t362 (ji3)).toList = ([] : List UInt8) then (if (ji3) ≤ (t362.length : Int) then (some (t362.take ((ji3) : Int).toNat)) else (none)) else (some t362)) else (none)) else (none)) = some r := by first | (rw [hji3] at H; exact H) | (simp only [hji3] at H ⊢; exact H)
 (try rw [hji3] at A2)
 have hji3w : (IntKind.i64.wrap ((t362.length : Int) - 1)) = ji3 := (i64_w _).trans hji3
 by_cases c4 : 0 ≤ (ji3)
 ·rw [if_pos c4] at H
  have c4b0 : decide (0 ≤ (ji3)) = true := decide_eq_true c4
  clear c4
  by_cases c5 : (ji3) < (t362.length : Int)
  ·rw [if_pos c5] at H
   have c5b0 : decide ((ji3) < (t362.length : Int)) = true := decide_eq_true c5
   clear c5
   by_cases c6 : (rdOf ByteArray.empty t362 (ji3)).toList = ([] : List UInt8)
   ·rw [if_pos c6] at H
    have c6b0 : ((rdOf ByteArray.empty t362 (ji3)).toList == ([] : List UInt8)) = true := beq_iff_eq.mpr c6
    have c6b1 : ((rdOf ByteArray.empty t362 (ji3)).toList != ([] : List UInt8)) = false := bne_eq_false_iff_eq.mpr c6
    clear c6
    by_cases c7 : (ji3) ≤ (t362.length : Int)
    ·rw [if_pos c7] at H
     have c7b0 := eq_true c7
     have c7b1 : decide ((ji3) ≤ (t362.length : Int)) = true := decide_eq_true c7
     clear c7
     obtain ⟨y366, hy366⟩ : ∃ y_ : List ByteArray, y_ = (t362.take ((ji3) : Int).toNat) := ⟨_, rfl⟩
     replace H : (some y366) = some r := by first | (rw [hy366]; with_reducible exact H) | (have H2_ := (Option.bind_some _ _).symm.trans H; rw [hy366]; with_reducible exact H2_) | (have H2_ := (Option.bind_some _ _).symm.trans H; with_reducible exact H2_) | with_reducible exact H | (rw [hy366]; exact H) | exact H
     have Ny366 := Aside0.mk hy366
     clear hy366
     obtain rfl := Option.some.inj H
     go_enter Tryz.func28, Tryz.ntmps28
     go_wp2_with (first | ((with_reducible refine gate_callee (f := 57) rfl ?_); refine goesL_ (some 5) rfl rfl Tryz.func57 (by kernel_rfl) rfl #[.string a0, .string (⟨#[10]⟩ : ByteArray)] rfl chM ?_; (with_reducible refine (strings_Split.calls a0 (⟨#[10]⟩ : ByteArray) t362 _ ?side_lay A2.out).mono ?_); (case side_lay => exact LayB.up HT.out chB); rintro e w8 ⟨v363, rfl, ho0, hb⟩; refine ⟨_, rfl, ?_⟩; have n0_ := Aside0.mk (Kd.R_lower ho0 (below_size chB)); have n1_ := Aside0.mk (below_step chB hb); clear HB; have HO364 := n0_; have HB := n1_; clear n0_ n1_; (try clear hb); (try clear hb2); (try clear hk); (try clear hi); (try clear ho0); obtain ⟨Ao9, co9, eo9⟩ := Kd.R_slice HO364.out; subst eo9; have p365 : 0 ≤ ((ji3) : Int) := of_decide_eq_true chA; have q365 : (ji3) < (t362.length : Int) := of_decide_eq_true chA; obtain ⟨ad365, e365, hx365_0⟩ := Kd.at_string (Kd.R_reads' HO364.out).2.2 (ji3) p365 q365; cases e365; replace p365 := eq_true p365; replace q365 := eq_true q365; have q10 : ((ji3) : Int) ≤ ((t362.length : Int) : Int) := of_decide_eq_true chA; obtain ⟨i010, hi010, _, hsz10, _⟩ := info_parts info9; have hcut10 := cut_to (P := Tryz.prog) 49 9 .i64 Tryz.underlying49 hi010 (some ad365) t362.length co9 (ji3) (of_decide_eq_true chA) q10 (Kd.R_reads' HO364.out).2.1; have hr10 := Kd.R_take (m := ((ji3) : Int).toNat) HO364.out (by omega); have hy10 : y366.length = ((ji3) : Int).toNat := (by rw [Ny366.out, List.length_take]; omega); rw [← Ny366.out] at hr10; rw [← hy10] at hr10 hcut10; clear hy10 hi010 hsz10 HO364; have HO368 := Aside0.mk hr10; clear hr10; replace q10 := eq_true q10))
     go_ret
     exact ⟨_, by first | rfl | (simp [errW_none, errW_some] <;> rfl) | (simp only [← hji3]; first | rfl | (simp [errW_none, errW_some] <;> rfl)) | (simp [*, errW_none, errW_some] <;> rfl), by (with_reducible repeat (first | apply Kd.R_alloc | apply Kd.R_drewN | apply Kd.R_drew)); exact HO368.out, chB⟩
    ·rw [if_neg c7] at H
     exact absurd H (by simp)
   ·rw [if_neg c6] at H
    have c6b0 : ((rdOf ByteArray.empty t362 (ji3)).toList == ([] : List UInt8)) = false := beq_eq_false_iff_ne.mpr c6
    have c6b1 : ((rdOf ByteArray.empty t362 (ji3)).toList != ([] : List UInt8)) = true := bne_iff_ne.mpr c6
    obtain rfl := Option.some.inj H
    go_enter Tryz.func28, Tryz.ntmps28
    go_wp2_with (first | ((with_reducible refine gate_callee (f := 57) rfl ?_); refine goesL_ (some 5) rfl rfl Tryz.func57 (by kernel_rfl) rfl #[.string a0, .string (⟨#[10]⟩ : ByteArray)] rfl chM ?_; (with_reducible refine (strings_Split.calls a0 (⟨#[10]⟩ : ByteArray) t362 _ ?side_lay A2.out).mono ?_); (case side_lay => exact LayB.up HT.out chB); rintro e w11 ⟨v363, rfl, ho0, hb⟩; refine ⟨_, rfl, ?_⟩; have n0_ := Aside0.mk (Kd.R_lower ho0 (below_size chB)); have n1_ := Aside0.mk (below_step chB hb); clear HB; have HO364 := n0_; have HB := n1_; clear n0_ n1_; (try clear hb); (try clear hb2); (try clear hk); (try clear hi); (try clear ho0); obtain ⟨Ao12, co12, eo12⟩ := Kd.R_slice HO364.out; subst eo12; have p365 : 0 ≤ ((ji3) : Int) := of_decide_eq_true chA; have q365 : (ji3) < (t362.length : Int) := of_decide_eq_true chA; obtain ⟨ad365, e365, hx365_0⟩ := Kd.at_string (Kd.R_reads' HO364.out).2.2 (ji3) p365 q365; cases e365; replace p365 := eq_true p365; replace q365 := eq_true q365))
    go_ret
    exact ⟨_, by first | rfl | (simp [errW_none, errW_some] <;> rfl) | (simp only [← hji3]; first | rfl | (simp [errW_none, errW_some] <;> rfl)) | (simp [*, errW_none, errW_some] <;> rfl), by (with_reducible repeat (first | apply Kd.R_alloc | apply Kd.R_drewN | apply Kd.R_drew)); exact HO364.out, chB⟩
  ·rw [if_neg c5] at H
   exact absurd H (by simp)
 ·rw [if_neg c4] at H
  exact absurd H (by simp)
/-! ### impl_Sample: function 29 -/
/-! ### impl_ParseScrape: function 11 -/
mutual
def impl_ParseScrape.j0 : Nat → List ByteArray → Bool → Option ((List (S35)) × List Int)
 | 0, _, _ => none
 | k + 1, x4, x20 => if x20 = true then (some (([] : List (S35)), (([0] : List Int)))) else (impl_ParseScrape.l0 k ([] : List (S35)) ([] : List Int) x4 (x4.length : Int) 0)
def impl_ParseScrape.l0 : Nat → List (S35) → List Int → List ByteArray → Int → Int → Option ((List (S35)) × List Int)
 | 0, _, _, _, _, _ => none
 | k + 1, x5, x6, x22, x23, x24 => if x24 < x23 then (if 0 ≤ x24 then (if x24 < (x22.length : Int) then (if (rdOf ByteArray.empty x22 x24).toList = ([] : List UInt8) then (impl_ParseScrape.j2 k x5 x6 x24 (rdOf ByteArray.empty x22 x24) x22 x23 x24 true) else (if 0 < ((rdOf ByteArray.empty x22 x24).size : Int) then (impl_ParseScrape.j2 k x5 x6 x24 (rdOf ByteArray.empty x22 x24) x22 x23 x24 ((bt (rdOf ByteArray.empty x22 x24) 0) == 35)) else (none))) else (none)) else (none)) else (some (x5, x6))
def impl_ParseScrape.j2 : Nat → List (S35) → List Int → Int → ByteArray → List ByteArray → Int → Int → Bool → Option ((List (S35)) × List Int)
 | 0, _, _, _, _, _, _, _, _ => none
 | k + 1, x5, x6, x7, x8, x22, x23, x24, x35 => if x35 = true then (impl_ParseScrape.l0 k x5 x6 x22 x23 (wrap64 (x24 + 1))) else ((impl_ParseSample.f k x8).bind fun bt376 => (if bt376.2.2.2.2 = true then ((impl_Sample.f x5 bt376.1 bt376.2.1 bt376.2.2.1 bt376.2.2.2.1).bind fun t382 => (if t382 = true then (if x6.length < 17592186044416 then (impl_ParseScrape.l0 k x5 (x6 ++ [wrap64 (x7 + 1)]) x22 x23 (wrap64 (x24 + 1))) else (none)) else (if x5.length < 2932031007402 then (impl_ParseScrape.l0 k (x5 ++ [(⟨bt376.1, bt376.2.1, bt376.2.2.1, bt376.2.2.2.1⟩ : S35)]) x6 x22 x23 (wrap64 (x24 + 1))) else (none)))) else (if x6.length < 17592186044416 then (impl_ParseScrape.l0 k x5 (x6 ++ [wrap64 (x7 + 1)]) x22 x23 (wrap64 (x24 + 1))) else (none))))
end
def impl_ParseScrape.f (k : Nat) (a0 : ByteArray) : Option ((List (S35)) × List Int) := (impl_linesOf.f a0).bind fun t369 => (if (a0.size : Int) > 3000 then (impl_ParseScrape.j0 k t369 true) else (impl_ParseScrape.j0 k t369 (decide ((t369.length : Int) > 100))))
set_option maxHeartbeats 8000000 in
set_option maxRecDepth 100000 in
theorem impl_ParseScrape.calls (k : Nat) (a0 : ByteArray) (r1 : List (S35)) (r2 : List Int) (w : World) (HT0 : LayB w) (h : impl_ParseScrape.f k a0 = some (r1, r2)) :
  Calls Tryz.prog 11 #[.string a0] w fun e w' => ∃ v0_ v1_ : Value, e = .returned (.tuple #[v0_, v1_]) ∧ Kd.R k35 35 w' w.heap.size (fun _ => True) v0_ r1 ∧ Kd.R (Kd.int .i64) 3 w' w.heap.size (fun _ => True) v1_ r2 ∧ Below w.heap.size w w' := by
 have HT := Aside0.mk HT0
 clear HT0
 have hu35 := Tryz.underlying35
 have HB := Aside0.mk (Below.refl w.heap.size w)
 have H : ((impl_linesOf.f a0).bind fun t369 => (if (a0.size : Int) > 3000 then (impl_ParseScrape.j0 k t369 true) else (impl_ParseScrape.j0 k t369 (decide ((t369.length : Int) > 100))))) = some (r1, r2) := h
 clear h
 replace H := Option.bind_eq_some_iff.mp H
 obtain ⟨t369, A20, H⟩ := H
 replace H : (if (a0.size : Int) > 3000 then (impl_ParseScrape.j0 k t369 true) else (impl_ParseScrape.j0 k t369 (decide ((t369.length : Int) > 100)))) = some (r1, r2) := H
 have A2 := Aside0.mk A20
 clear A20
 have HC3 := Aside0.mk H
 clear H
 go_enter Tryz.func11, Tryz.ntmps11
 go_upto_region 2 with (first | ((with_reducible refine gate_callee (f := 28) rfl ?_); refine goesL_ (some 12) rfl rfl Tryz.func28 (by kernel_rfl) rfl #[.string a0] rfl chM ?_; (with_reducible refine (impl_linesOf.calls a0 t369 _ ?side_lay A2.out).mono ?_); (case side_lay => exact LayB.up HT.out chB); rintro e w4 ⟨v370, rfl, ho0, hb⟩; refine ⟨_, rfl, ?_⟩; have n0_ := Aside0.mk (Kd.R_lower ho0 (below_size chB)); have n1_ := Aside0.mk (below_step chB hb); clear HB; have HO371 := n0_; have HB := n1_; clear n0_ n1_; (try clear hb); (try clear hb2); (try clear hk); (try clear hi); (try clear ho0)))
 (try simp only [Act.put, List.setIfInBounds_toArray, List.set_cons_zero, List.set_cons_succ])
 go_cut [20] (fun v20 wc => ∃ (kq : Nat) (x20_2 : Bool), v20 = .bool x20_2 ∧ Aside0 (impl_ParseScrape.j0 kq t369 x20_2 = some (r1, r2)) ∧ Aside0 (kq ≤ k) ∧ Aside0 (Kd.R Kd.string 9 wc w.heap.size (fun _ => True) v370 t369) ∧ Aside0 (Below w.heap.size w wc))
 case first =>
  have H := HC3.out
  clear HC3
  by_cases c5 : (a0.size : Int) > 3000
  ·rw [if_pos c5] at H
   have c5b0 : decide (3000 < (a0.size : Int)) = true := decide_eq_true c5
   have c5b1 : decide (3000 < a0.size) = true := decide_eq_true (by omega)
   clear c5
   (first | rw [c5b0] | (simp only [i64_w, i32_w]; rw [c5b0]) | skip)
   have H' := Aside0.mk H
   clear H
   go_wp2
   go_meet
   case rel => exact ⟨_, (true), (by first | rfl | (simp; done) | (simp [*]; done)), H', ⟨by first | omega | exact Nat.le_refl _⟩, ⟨by (with_reducible repeat (first | apply Kd.R_alloc | apply Kd.R_drewN | apply Kd.R_drew)); exact HO371.out⟩, ⟨chB⟩⟩
  ·rw [if_neg c5] at H
   have c5b0 : decide (3000 < (a0.size : Int)) = false := decide_eq_false c5
   have c5b1 : decide (3000 < a0.size) = false := decide_eq_false (by omega)
   clear c5
   (first | rw [c5b0] | (simp only [i64_w, i32_w]; rw [c5b0]) | skip)
   have H' := Aside0.mk H
   clear H
   obtain ⟨Ao6, co6, eo6⟩ := Kd.R_slice HO371.out
   subst eo6
   go_wp2
   go_meet
   case rel => exact ⟨_, (decide ((t369.length : Int) > 100)), (by first | rfl | (simp; done) | (simp [*]; done)), H', ⟨by first | omega | exact Nat.le_refl _⟩, ⟨by (with_reducible repeat (first | apply Kd.R_alloc | apply Kd.R_drewN | apply Kd.R_drew)); exact HO371.out⟩, ⟨chB⟩⟩
 case rest =>
  clear HC3
  try clear c1
  try clear c2
  try clear p2
  try clear c5
  try clear c5b0
  try clear c5b1
  obtain ⟨kq, x20_2, rfl, HA, HJ2, HO_4, HB⟩ := hcut
  cases kq with
  | zero => exact absurd HA.out (by simp [impl_ParseScrape.j0])
  | succ kj2 =>
   have H := HA.out
   clear HA
   simp only [impl_ParseScrape.j0] at H
   by_cases c7 : x20_2 = true
   ·subst c7
    have H1 : (some (([] : List (S35)), (([0] : List Int)))) = some (r1, r2) := by rw [if_pos rfl] at H; exact H
    clear H
    have H := H1
    clear H1
    obtain ⟨y372, hy372⟩ : ∃ y_ : List Int, y_ = (([0] : List Int)) := ⟨_, rfl⟩
    replace H : (some (([] : List (S35)), y372)) = some (r1, r2) := by first | (rw [hy372]; with_reducible exact H) | (have H2_ := (Option.bind_some _ _).symm.trans H; rw [hy372]; with_reducible exact H2_) | (have H2_ := (Option.bind_some _ _).symm.trans H; with_reducible exact H2_) | with_reducible exact H | (rw [hy372]; exact H) | exact H
    have Ny372 := Aside0.mk hy372
    clear hy372
    simp only [Option.some.injEq, Prod.mk.injEq] at H
    obtain ⟨rfl, rfl⟩ := H
    go_wp2_with (first | ((with_reducible refine gate_dst (N := 21) rfl ?_); (try (refine gate_guard (by rfl) ?_; dsimp only)); refine Kd.R_lit (Kd.int .i64) _ 3 ?hg (N := 21) ?hd (xs := ([0] : List Int)) (inner := [.int .i64 0]) (ok := fun _ => True) (okp := fun _ => True) ?hr ?hp (fun _ hk => hk) trivial (Below.refl _ _) (Nat.le_refl _) (by simp) ?_; (case hd => rfl); (case hg => rfl); (case hr => first | (go_simp; done) | (go_simp; rfl)); (case hp => exact (Reps.one (show Kd.M (Kd.int .i64) _ _ _ 0 [.int .i64 0] from rfl) (Reps.none _ _))); intro v373 w8 ho9 hb hg_ hnew_; clear hg_ hnew_; (first | rw [← Ny372.out] at ho9 | (simp only [Int.reduceToNat] at ho9; rw [← Ny372.out] at ho9)); have n0_ := Aside0.mk (Kd.R_below (chR HO_4.out) hb); have n1_ := Aside0.mk (Kd.R_lower ho9 (below_size chB)); have n2_ := Aside0.mk (below_step chB hb); clear HO_4; clear HB; have HO_4 := n0_; have HO374 := n1_; have HB := n2_; clear n0_ n1_ n2_; clear hb ho9))
    go_ret2
    exact ⟨_, _, chE, by first | exact Kd.R_nil _ _ _ _ _ | exact Kd.N_nil _ _ _ _ _ | exact Kd.V_nil _ _ _ _ _ | exact Kd.Q_nil _ _ _ _ _ | exact Kd.S_nil _ _ _ _ _, by (with_reducible repeat (first | apply Kd.R_alloc | apply Kd.R_drewN | apply Kd.R_drew)); exact HO374.out, chB⟩
   ·replace c7 := Bool.eq_false_iff.mpr c7
    subst c7
    have H1 : (impl_ParseScrape.l0 kj2 ([] : List (S35)) ([] : List Int) t369 (t369.length : Int) 0) = some (r1, r2) := by rw [if_neg (show ¬ (false = true) by decide)] at H; exact H
    clear H
    have H := H1
    clear H1
    have H' := Aside0.mk H
    clear H
    obtain ⟨Ao10, co10, eo10⟩ := Kd.R_slice HO_4.out
    subst eo10
    go_wp2
    go_loopg [5, 6, 24] kj2 (fun kq v5 v6 v24 w' => ∃ (x5_2 : List (S35)) (x6_2 : List Int) (x24_2 : Int), v24 = .int .i64 x24_2 ∧ Aside0 (impl_ParseScrape.l0 kq x5_2 x6_2 t369 (t369.length : Int) x24_2 = some (r1, r2)) ∧ Aside0 (kq ≤ kj2) ∧ Aside0 (Kd.R k35 35 w' w.heap.size (fun _ => True) v5 x5_2) ∧ Aside0 (Kd.R (Kd.int .i64) 3 w' w.heap.size (fun _ => True) v6 x6_2) ∧ Aside0 (Kd.R Kd.string 9 w' w.heap.size (fun _ => True) (.slice Ao10 t369.length co10) t369) ∧ Aside0 (Below w.heap.size w w'))
    case atStart => exact ⟨(([] : List (S35))), (([] : List Int)), (0), (by first | rfl | (simp; done) | (simp [*]; done)), H', ⟨Nat.le_refl _⟩, ⟨by first | exact Kd.R_nil _ _ _ _ _ | exact Kd.N_nil _ _ _ _ _ | exact Kd.V_nil _ _ _ _ _ | exact Kd.Q_nil _ _ _ _ _ | exact Kd.S_nil _ _ _ _ _⟩, ⟨by first | exact Kd.R_nil _ _ _ _ _ | exact Kd.N_nil _ _ _ _ _ | exact Kd.V_nil _ _ _ _ _ | exact Kd.Q_nil _ _ _ _ _ | exact Kd.S_nil _ _ _ _ _⟩, ⟨by (with_reducible repeat (first | apply Kd.R_alloc | apply Kd.R_drewN | apply Kd.R_drew)); exact HO_4.out⟩, ⟨chB⟩⟩
    case round =>
     clear H'
     try clear c1
     try clear c2
     try clear p2
     try clear c5
     try clear c5b0
     try clear c5b1
     try clear c7
     try clear p2
     obtain ⟨x5_2, x6_2, x24_2, rfl, HA, HK2, HO_5, HO_6, HO_22, HB⟩ := hrel
     cases gk with
     | zero => exact absurd HA.out (by simp [impl_ParseScrape.l0])
     | succ k2 =>
      have H := HA.out
      clear HA
      simp only [impl_ParseScrape.l0] at H
      by_cases c11 : x24_2 < (t369.length : Int)
      ·rw [if_pos c11] at H
       have c11b0 : decide (x24_2 < (t369.length : Int)) = true := decide_eq_true c11
       clear c11
       by_cases c12 : 0 ≤ x24_2
       ·rw [if_pos c12] at H
        have c12b0 : decide (0 ≤ x24_2) = true := decide_eq_true c12
        clear c12
        by_cases c13 : x24_2 < (t369.length : Int)
        ·rw [if_pos c13] at H
         have c13b0 : decide (x24_2 < (t369.length : Int)) = true := decide_eq_true c13
         clear c13
         have HC14 := Aside0.mk H
         clear H
         have p375 : 0 ≤ (x24_2 : Int) := of_decide_eq_true chA
         have q375 : x24_2 < (t369.length : Int) := of_decide_eq_true chA
         obtain ⟨ad375, e375, hx375_0⟩ := Kd.at_string (Kd.R_reads' HO_22.out).2.2 x24_2 p375 q375
         cases e375
         replace p375 := eq_true p375
         replace q375 := eq_true q375
         go_upto_region 9 with (fail)
         go_cut [35] (fun v35 wc => ∃ (kq : Nat) (x35_13 : Bool), v35 = .bool x35_13 ∧ Aside0 (impl_ParseScrape.j2 kq x5_2 x6_2 x24_2 (rdOf ByteArray.empty t369 x24_2) t369 (t369.length : Int) x24_2 x35_13 = some (r1, r2)) ∧ Aside0 (kq ≤ k2) ∧ Aside0 (Kd.R k35 35 wc w.heap.size (fun _ => True) u5 x5_2) ∧ Aside0 (Kd.R (Kd.int .i64) 3 wc w.heap.size (fun _ => True) u6 x6_2) ∧ Aside0 (Kd.R Kd.string 9 wc w.heap.size (fun _ => True) (.slice (some ad375) t369.length co10) t369) ∧ Aside0 (Below w.heap.size w wc))
         case first =>
          have H := HC14.out
          clear HC14
          by_cases c15 : (rdOf ByteArray.empty t369 x24_2).toList = ([] : List UInt8)
          ·rw [if_pos c15] at H
           have c15b0 : ((rdOf ByteArray.empty t369 x24_2).toList == ([] : List UInt8)) = true := beq_iff_eq.mpr c15
           have c15b1 : ((rdOf ByteArray.empty t369 x24_2).toList != ([] : List UInt8)) = false := bne_eq_false_iff_eq.mpr c15
           clear c15
           (first | rw [c15b0] | (simp only [i64_w, i32_w]; rw [c15b0]) | skip)
           have H' := Aside0.mk H
           clear H
           go_wp2
           go_meet
           case rel => exact ⟨_, (true), (by first | rfl | (simp; done) | (simp [*]; done)), H', ⟨by have := HJ2.out; have := HK2.out; first | omega | exact Nat.le_refl _⟩, ⟨by (with_reducible repeat (first | apply Kd.R_alloc | apply Kd.R_drewN | apply Kd.R_drew)); exact HO_5.out⟩, ⟨by (with_reducible repeat (first | apply Kd.R_alloc | apply Kd.R_drewN | apply Kd.R_drew)); exact HO_6.out⟩, ⟨by (with_reducible repeat (first | apply Kd.R_alloc | apply Kd.R_drewN | apply Kd.R_drew)); exact HO_22.out⟩, ⟨chB⟩⟩
          ·rw [if_neg c15] at H
           have c15b0 : ((rdOf ByteArray.empty t369 x24_2).toList == ([] : List UInt8)) = false := beq_eq_false_iff_ne.mpr c15
           have c15b1 : ((rdOf ByteArray.empty t369 x24_2).toList != ([] : List UInt8)) = true := bne_iff_ne.mpr c15
           (first | rw [c15b0] | (simp only [i64_w, i32_w]; rw [c15b0]) | skip)
           by_cases c16 : 0 < ((rdOf ByteArray.empty t369 x24_2).size : Int)
           ·rw [if_pos c16] at H
            have c16b0 : decide (0 < ((rdOf ByteArray.empty t369 x24_2).size : Int)) = true := decide_eq_true c16
            have c16b1 : decide (0 < (rdOf ByteArray.empty t369 x24_2).size) = true := decide_eq_true (by omega)
            clear c16
            have H' := Aside0.mk H
            clear H
            have p17 : 0 ≤ (0 : Int) := (by omega)
            have q17 : 0 < (rdOf ByteArray.empty t369 x24_2).size := (by have : (0 : Int) < ((rdOf ByteArray.empty t369 x24_2).size : Int) := of_decide_eq_true chA; omega)
            have hx17 : ∀ h : 0 < (rdOf ByteArray.empty t369 x24_2).size, (((rdOf ByteArray.empty t369 x24_2)[0]'h).toNat : Int) = bt (rdOf ByteArray.empty t369 x24_2) 0 := bt_at (rdOf ByteArray.empty t369 x24_2) 0
            clear p17
            have qi17 : (0 < ((rdOf ByteArray.empty t369 x24_2).size : Int)) = True := eq_true (of_decide_eq_true chA)
            replace q17 := eq_true q17
            go_wp2
            go_meet
            case rel => exact ⟨_, (((bt (rdOf ByteArray.empty t369 x24_2) 0) == 35)), (by first | rfl | (simp; done) | (simp [*]; done)), H', ⟨by have := HJ2.out; have := HK2.out; first | omega | exact Nat.le_refl _⟩, ⟨by (with_reducible repeat (first | apply Kd.R_alloc | apply Kd.R_drewN | apply Kd.R_drew)); exact HO_5.out⟩, ⟨by (with_reducible repeat (first | apply Kd.R_alloc | apply Kd.R_drewN | apply Kd.R_drew)); exact HO_6.out⟩, ⟨by (with_reducible repeat (first | apply Kd.R_alloc | apply Kd.R_drewN | apply Kd.R_drew)); exact HO_22.out⟩, ⟨chB⟩⟩
           ·rw [if_neg c16] at H
            exact absurd H (by simp)
         case rest =>
          clear HC14
          try clear c1
          try clear p1
          try clear q1
          try clear hx1
          try clear qi1
          try clear c2
          try clear p2
          try clear p3
          try clear q3
          try clear hx3
          try clear c5
          try clear c5b0
          try clear c5b1
          try clear c7
          try clear c11
          try clear c11b0
          try clear c12
          try clear c12b0
          try clear c13
          try clear c13b0
          try clear c15
          try clear c15b0
          try clear c15b1
          try clear c16
          try clear c16b0
          try clear c16b1
          try clear p17
          try clear q17
          try clear hx17
          try clear qi17
          try clear hx375_0
          try clear p17
          try clear p2
          try clear p375
          try clear q17
          try clear q375
          obtain ⟨kq, x35_13, rfl, HA, HJ13, HO_5, HO_6, HO_22, HB⟩ := hcut
          cases kq with
          | zero => exact absurd HA.out (by simp [impl_ParseScrape.j2])
          | succ kj13 =>
           have H := HA.out
           clear HA
           simp only [impl_ParseScrape.j2] at H
           by_cases c18 : x35_13 = true
           ·subst c18
            have H1 : (impl_ParseScrape.l0 kj13 x5_2 x6_2 t369 (t369.length : Int) (wrap64 (x24_2 + 1))) = some (r1, r2) := by rw [if_pos rfl] at H; exact H
            clear H
            have H := H1
            clear H1
            have H' := Aside0.mk H
            clear H
            go_wp2
            go_roundg kj13
            case measure => have := HJ2.out; have := HK2.out; have := HJ13.out; omega
            case rel => exact ⟨(x5_2), (x6_2), (wrap64 (x24_2 + 1)), (by first | rfl | (simp; done) | (simp [*]; done)), H', ⟨by have := HJ2.out; have := HK2.out; have := HJ13.out; omega⟩, ⟨by (with_reducible repeat (first | apply Kd.R_alloc | apply Kd.R_drewN | apply Kd.R_drew)); exact HO_5.out⟩, ⟨by (with_reducible repeat (first | apply Kd.R_alloc | apply Kd.R_drewN | apply Kd.R_drew)); exact HO_6.out⟩, ⟨by (with_reducible repeat (first | apply Kd.R_alloc | apply Kd.R_drewN | apply Kd.R_drew)); exact HO_22.out⟩, ⟨chB⟩⟩
           ·replace c18 := Bool.eq_false_iff.mpr c18
            subst c18
            have H1 : ((impl_ParseSample.f kj13 (rdOf ByteArray.empty t369 x24_2)).bind fun bt376 => (if bt376.2.2.2.2 = true then ((impl_Sample.f x5_2 bt376.1 bt376.2.1 bt376.2.2.1 bt376.2.2.2.1).bind fun t382 => (if t382 = true then (if x6_2.length < 17592186044416 then (impl_ParseScrape.l0 kj13 x5_2 (x6_2 ++ [wrap64 (x24_2 + 1)]) t369 (t369.length : Int) (wrap64 (x24_2 + 1))) else (none)) else (if x5_2.length < 2932031007402 then (impl_ParseScrape.l0 kj13 (x5_2 ++ [(⟨bt376.1, bt376.2.1, bt376.2.2.1, bt376.2.2.2.1⟩ : S35)]) x6_2 t369 (t369.length : Int) (wrap64 (x24_2 + 1))) else (none)))) else (if x6_2.length < 17592186044416 then (impl_ParseScrape.l0 kj13 x5_2 (x6_2 ++ [wrap64 (x24_2 + 1)]) t369 (t369.length : Int) (wrap64 (x24_2 + 1))) else (none)))) = some (r1, r2) := by rw [if_neg (show ¬ (false = true) by decide)] at H; exact H
            clear H
            have H := H1
            clear H1
            replace H := Option.bind_eq_some_iff.mp H
            obtain ⟨⟨t376, t377, t378, t379, t380⟩, A190, H⟩ := H
            replace H : (if t380 = true then ((impl_Sample.f x5_2 t376 t377 t378 t379).bind fun t382 => (if t382 = true then (if x6_2.length < 17592186044416 then (impl_ParseScrape.l0 kj13 x5_2 (x6_2 ++ [wrap64 (x24_2 + 1)]) t369 (t369.length : Int) (wrap64 (x24_2 + 1))) else (none)) else (if x5_2.length < 2932031007402 then (impl_ParseScrape.l0 kj13 (x5_2 ++ [(⟨t376, t377, t378, t379⟩ : S35)]) x6_2 t369 (t369.length : Int) (wrap64 (x24_2 + 1))) else (none)))) else (if x6_2.length < 17592186044416 then (impl_ParseScrape.l0 kj13 x5_2 (x6_2 ++ [wrap64 (x24_2 + 1)]) t369 (t369.length : Int) (wrap64 (x24_2 + 1))) else (none))) = some (r1, r2) := H
            have A19 := Aside0.mk A190
            clear A190
            by_cases c20 : t380 = true
            ·subst c20
             have H1 : ((impl_Sample.f x5_2 t376 t377 t378 t379).bind fun t382 => (if t382 = true then (if x6_2.length < 17592186044416 then (impl_ParseScrape.l0 kj13 x5_2 (x6_2 ++ [wrap64 (x24_2 + 1)]) t369 (t369.length : Int) (wrap64 (x24_2 + 1))) else (none)) else (if x5_2.length < 2932031007402 then (impl_ParseScrape.l0 kj13 (x5_2 ++ [(⟨t376, t377, t378, t379⟩ : S35)]) x6_2 t369 (t369.length : Int) (wrap64 (x24_2 + 1))) else (none)))) = some (r1, r2) := by rw [if_pos rfl] at H; exact H
             clear H
             have H := H1
             clear H1
             replace H := Option.bind_eq_some_iff.mp H
             obtain ⟨t382, A210, H⟩ := H
             replace H : (if t382 = true then (if x6_2.length < 17592186044416 then (impl_ParseScrape.l0 kj13 x5_2 (x6_2 ++ [wrap64 (x24_2 + 1)]) t369 (t369.length : Int) (wrap64 (x24_2 + 1))) else (none)) else (if x5_2.length < 2932031007402 then (impl_ParseScrape.l0 kj13 (x5_2 ++ [(⟨t376, t377, t378, t379⟩ : S35)]) x6_2 t369 (t369.length : Int) (wrap64 (x24_2 + 1))) else (none))) = some (r1, r2) := H
             have A21 := Aside0.mk A210
             clear A210
             by_cases c22 : t382 = true
             ·subst c22
              have H1 : (if x6_2.length < 17592186044416 then (impl_ParseScrape.l0 kj13 x5_2 (x6_2 ++ [wrap64 (x24_2 + 1)]) t369 (t369.length : Int) (wrap64 (x24_2 + 1))) else (none)) = some (r1, r2) := by rw [if_pos rfl] at H; exact H
              clear H
              have H := H1
              clear H1
              by_cases c23 : x6_2.length < 17592186044416
              ·rw [if_pos c23] at H
               have LMc23 := Aside0.mk c23
               clear c23
               obtain ⟨y383, hy383⟩ : ∃ y_ : List Int, y_ = (x6_2 ++ [wrap64 (x24_2 + 1)]) := ⟨_, rfl⟩
               replace H : (impl_ParseScrape.l0 kj13 x5_2 y383 t369 (t369.length : Int) (wrap64 (x24_2 + 1))) = some (r1, r2) := by first | (rw [hy383]; with_reducible exact H) | (have H2_ := (Option.bind_some _ _).symm.trans H; rw [hy383]; with_reducible exact H2_) | (have H2_ := (Option.bind_some _ _).symm.trans H; with_reducible exact H2_) | with_reducible exact H | (rw [hy383]; exact H) | exact H
               have Ny383 := Aside0.mk hy383
               clear hy383
               have H' := Aside0.mk H
               clear H
               go_wp2_with (first | ((with_reducible refine gate_callee (f := 14) rfl ?_); refine goesL_ (some 38) rfl rfl Tryz.func14 (by kernel_rfl) rfl #[.string (rdOf ByteArray.empty t369 x24_2)] rfl chM ?_; (with_reducible refine (impl_ParseSample.calls kj13 (rdOf ByteArray.empty t369 x24_2) t376 t377 t378 t379 true _ ?side_lay A19.out).mono ?_); (case side_lay => exact LayB.up HT.out chB); rintro e w24 ⟨rfl, hb⟩; refine ⟨_, rfl, ?_⟩; have n0_ := Aside0.mk (Kd.R_below (chR HO_5.out) hb); have n1_ := Aside0.mk (Kd.R_below (chR HO_6.out) hb); have n2_ := Aside0.mk (Kd.R_below (chR HO_22.out) hb); have n3_ := Aside0.mk (below_step chB hb); clear HO_5; clear HO_6; clear HO_22; clear HB; have HO_5 := n0_; have HO_6 := n1_; have HO_22 := n2_; have HB := n3_; clear n0_ n1_ n2_ n3_; (try clear hb); (try clear hb2); (try clear hk); (try clear hi)) | ((with_reducible refine gate_dst (N := 9) rfl ?_); (try (refine gate_guard (by rfl) ?_; dsimp only)); refine box_event ?hg (N := 9) ?hd (cs := #[.string (⟨#[]⟩ : ByteArray), .string (⟨#[]⟩ : ByteArray), .int .i64 0, .int .i64 0]) (t := 35) ?hr ?_; (case hd => rfl); (case hg => rfl); (case hr => first | (go_simp; done) | (go_simp; rfl)); intro gb381 hg w25 hbox hb; have n0_ := Aside0.mk (Kd.R_below (Kd.R_elderB (chR HO_5.out) gb381 (Nat.le_of_eq hg.symm)) hb); have n1_ := Aside0.mk (Kd.R_below (chR HO_6.out) hb); have n2_ := Aside0.mk (Kd.R_below (chR HO_22.out) hb); have n3_ := Aside0.mk (below_step chB hb); have n4_ := Aside0.mk (hbox); have n5_ := Aside0.mk ((by rw [hg]; exact (below_size chB) : w.heap.size ≤ gb381)); have n6_ := Aside0.mk ((by rw [hg]; exact (below_size chB) : w.heap.size ≤ gb381)); clear HO_5; clear HO_6; clear HO_22; clear HB; have HO_5 := n0_; have HO_6 := n1_; have HO_22 := n2_; have HB := n3_; have BK381 := n4_; have GW381 := n5_; have GE381 := n6_; clear n0_ n1_ n2_ n3_ n4_ n5_ n6_; clear hb hbox hg; obtain ⟨hcz26_0, hcz26_1, hcz26_2, hcz26_3, hfz26_0, hfz26_1, hfz26_2, hfz26_3⟩ := blk4 BK381.out; obtain ⟨Ao27, co27, eo27⟩ := Kd.R_slice HO_5.out; subst eo27) | (go_at_call 29; (with_reducible refine (impl_Sample.calls gb381 _ _ x5_2 t376 t377 t378 t379 true _ ?side0 ?side1 ?side2 A21.out).mono ?_); (case side0 => exact (by (with_reducible repeat (first | refine blk_drewN ?_ _ | refine blk_drew ?_ | refine blk_alloc ?_ _)); refine blk_put (cs := #[.string t376, .string t377, .int .i64 t378, .int .i64 0]) ?_ 3 _ rfl; (with_reducible repeat (first | refine blk_drewN ?_ _ | refine blk_drew ?_ | refine blk_alloc ?_ _)); refine blk_put (cs := #[.string t376, .string t377, .int .i64 0, .int .i64 0]) ?_ 2 _ rfl; (with_reducible repeat (first | refine blk_drewN ?_ _ | refine blk_drew ?_ | refine blk_alloc ?_ _)); refine blk_put (cs := #[.string t376, .string (⟨#[]⟩ : ByteArray), .int .i64 0, .int .i64 0]) ?_ 1 _ rfl; (with_reducible repeat (first | refine blk_drewN ?_ _ | refine blk_drew ?_ | refine blk_alloc ?_ _)); refine blk_put (cs := #[.string (⟨#[]⟩ : ByteArray), .string (⟨#[]⟩ : ByteArray), .int .i64 0, .int .i64 0]) ?_ 0 _ rfl; (with_reducible repeat (first | refine blk_drewN ?_ _ | refine blk_drew ?_ | refine blk_alloc ?_ _)); exact BK381.out)); (case side1 => refine (Kd.R_reads' (e := 35) (base := w.heap.size) (ok := fun k_ => (True ∧ k_ ≠ gb381)) (n := x5_2.length) (c := co27) ?_).2.2; exact (by (with_reducible repeat (first | apply Kd.R_alloc | apply Kd.R_drewN | apply Kd.R_drew)); exact (Kd.R_mono (Kd.R_far (p := ⟨gb381, 3, none⟩) (Kd.R_far (p := ⟨gb381, 2, none⟩) (Kd.R_far (p := ⟨gb381, 1, none⟩) (Kd.R_far (p := ⟨gb381, 0, none⟩) (Kd.R_mono HO_5.out (fun k_ hk => (⟨hk, hk.2⟩ : _ ∧ k_ ≠ gb381))) (fun _ hk => hk.2) (.string t376)) (fun _ hk => hk.2) (.string t377)) (fun _ hk => hk.2) (.int .i64 t378)) (fun _ hk => hk.2) (.int .i64 t379)) (fun _ h_ => h_.1)))); (case side2 => exact (Kd.R_reads' HO_5.out).2.1); rintro e w28 ⟨rfl, hb⟩; have n0_ := Aside0.mk (Kd.R_below (by (with_reducible repeat (first | apply Kd.R_alloc | apply Kd.R_drewN | apply Kd.R_drew)); exact (Kd.R_mono (Kd.R_far (p := ⟨gb381, 3, none⟩) (Kd.R_far (p := ⟨gb381, 2, none⟩) (Kd.R_far (p := ⟨gb381, 1, none⟩) (Kd.R_far (p := ⟨gb381, 0, none⟩) (Kd.R_mono HO_5.out (fun k_ hk => (⟨hk, hk.2⟩ : _ ∧ k_ ≠ gb381))) (fun _ hk => hk.2) (.string t376)) (fun _ hk => hk.2) (.string t377)) (fun _ hk => hk.2) (.int .i64 t378)) (fun _ hk => hk.2) (.int .i64 t379)) (fun _ h_ => h_.1))) hb); have n1_ := Aside0.mk (Kd.R_below (by (with_reducible repeat (first | apply Kd.R_alloc | apply Kd.R_drewN | apply Kd.R_drew)); exact (Kd.R_mono (Kd.R_far (p := ⟨gb381, 3, none⟩) (Kd.R_far (p := ⟨gb381, 2, none⟩) (Kd.R_far (p := ⟨gb381, 1, none⟩) (Kd.R_far (p := ⟨gb381, 0, none⟩) (Kd.R_types HO_6.out BK381.out (by decide)) (fun _ hk => hk.2) (.string t376)) (fun _ hk => hk.2) (.string t377)) (fun _ hk => hk.2) (.int .i64 t378)) (fun _ hk => hk.2) (.int .i64 t379)) (fun _ h_ => h_.1))) hb); have n2_ := Aside0.mk (Kd.R_below (by (with_reducible repeat (first | apply Kd.R_alloc | apply Kd.R_drewN | apply Kd.R_drew)); exact (Kd.R_mono (Kd.R_far (p := ⟨gb381, 3, none⟩) (Kd.R_far (p := ⟨gb381, 2, none⟩) (Kd.R_far (p := ⟨gb381, 1, none⟩) (Kd.R_far (p := ⟨gb381, 0, none⟩) (Kd.R_types HO_22.out BK381.out (by decide)) (fun _ hk => hk.2) (.string t376)) (fun _ hk => hk.2) (.string t377)) (fun _ hk => hk.2) (.int .i64 t378)) (fun _ hk => hk.2) (.int .i64 t379)) (fun _ h_ => h_.1))) hb); have n3_ := Aside0.mk (blk_below (g := gb381) (o := .cells #[.string t376, .string t377, .int .i64 t378, .int .i64 t379] 35 (0, 0)) (by (with_reducible repeat (first | refine blk_drewN ?_ _ | refine blk_drew ?_ | refine blk_alloc ?_ _)); refine blk_put (cs := #[.string t376, .string t377, .int .i64 t378, .int .i64 0]) ?_ 3 _ rfl; (with_reducible repeat (first | refine blk_drewN ?_ _ | refine blk_drew ?_ | refine blk_alloc ?_ _)); refine blk_put (cs := #[.string t376, .string t377, .int .i64 0, .int .i64 0]) ?_ 2 _ rfl; (with_reducible repeat (first | refine blk_drewN ?_ _ | refine blk_drew ?_ | refine blk_alloc ?_ _)); refine blk_put (cs := #[.string t376, .string (⟨#[]⟩ : ByteArray), .int .i64 0, .int .i64 0]) ?_ 1 _ rfl; (with_reducible repeat (first | refine blk_drewN ?_ _ | refine blk_drew ?_ | refine blk_alloc ?_ _)); refine blk_put (cs := #[.string (⟨#[]⟩ : ByteArray), .string (⟨#[]⟩ : ByteArray), .int .i64 0, .int .i64 0]) ?_ 0 _ rfl; (with_reducible repeat (first | refine blk_drewN ?_ _ | refine blk_drew ?_ | refine blk_alloc ?_ _)); exact BK381.out) hb); have n4_ := Aside0.mk (below_step chG hb); clear HO_5; clear HO_6; clear HO_22; clear BK381; clear HB; have HO_5 := n0_; have HO_6 := n1_; have HO_22 := n2_; have BK381 := n3_; have HB := n4_; clear n0_ n1_ n2_ n3_ n4_; (try clear hb); (try clear hb2); (try clear hk); (try clear hi)) | ((with_reducible refine gate_builtin (b := .append) (xs := #[.tmp 48, .tmp 51]) rfl ?_); (try (refine gate_guard (by rfl) ?_; dsimp only)); at_builtin; refine Kd.R_append (Kd.int .i64) (w0 := w) w.heap.size rfl (.tmp 48) (.tmp 51) 30 3 (.int .i64 0) 8 rfl Tryz.underlying30 info3 rfl (by decide) (by omega) u6 x6_2 (wrap64 (x24_2 + 1)) [.int .i64 (wrap64 (x24_2 + 1))] (fun _ => True) (fun _ => False) rfl rfl ?aP (fun _ hk => hk.elim) ?aF ?aO ?aB ?aS ?aL ?_; (case aP => exact rfl); (case aB => exact chG); (case aF => exact (fun _ _ => trivial)); (case aO => exact (chR HO_6.out)); (case aS => exact (below_size chG)); (case aL => have := LMc23.out; omega); intro v384 w29 ho hb hg hat; rw [← Ny383.out] at ho; have n0_ := Aside0.mk (Kd.R_over' (chR HO_5.out) (Kd.R_typed (chR HO_6.out)) (by decide) hg); have n1_ := Aside0.mk (Kd.R_over' (chR HO_22.out) (Kd.R_typed (chR HO_6.out)) (by decide) hg); have n2_ := Aside0.mk (blk_grown (g := gb381) (o := .cells #[.string t376, .string t377, .int .i64 t378, .int .i64 t379] 35 (0, 0)) (blx BK381.out) hg (Kd.R_ne HO_6.out BK381.out (by decide))); have n3_ := Aside0.mk (hb); have n4_ := Aside0.mk (ho); clear HO_5; clear HO_22; clear BK381; clear HB; clear HO_6; have HO_5 := n0_; have HO_22 := n1_; have BK381 := n2_; have HB := n3_; have HO385 := n4_; clear n0_ n1_ n2_ n3_ n4_; clear ho hb hg hat))
               go_roundg kj13
               case measure => have := HJ2.out; have := HK2.out; have := HJ13.out; omega
               case rel => exact ⟨(x5_2), (y383), (wrap64 (x24_2 + 1)), (by first | rfl | (simp; done) | (simp [*]; done)), H', ⟨by have := HJ2.out; have := HK2.out; have := HJ13.out; omega⟩, ⟨by (with_reducible repeat (first | apply Kd.R_alloc | apply Kd.R_drewN | apply Kd.R_drew)); exact Kd.R_mono HO_5.out (fun _ hk => trivial)⟩, ⟨by (with_reducible repeat (first | apply Kd.R_alloc | apply Kd.R_drewN | apply Kd.R_drew)); exact HO385.out⟩, ⟨by (with_reducible repeat (first | apply Kd.R_alloc | apply Kd.R_drewN | apply Kd.R_drew)); exact HO_22.out⟩, ⟨chG⟩⟩
              ·rw [if_neg c23] at H
               exact absurd H (by simp)
             ·replace c22 := Bool.eq_false_iff.mpr c22
              subst c22
              have H1 : (if x5_2.length < 2932031007402 then (impl_ParseScrape.l0 kj13 (x5_2 ++ [(⟨t376, t377, t378, t379⟩ : S35)]) x6_2 t369 (t369.length : Int) (wrap64 (x24_2 + 1))) else (none)) = some (r1, r2) := by rw [if_neg (show ¬ (false = true) by decide)] at H; exact H
              clear H
              have H := H1
              clear H1
              by_cases c30 : x5_2.length < 2932031007402
              ·rw [if_pos c30] at H
               have LMc30 := Aside0.mk c30
               clear c30
               obtain ⟨y386, hy386⟩ : ∃ y_ : List (S35), y_ = (x5_2 ++ [(⟨t376, t377, t378, t379⟩ : S35)]) := ⟨_, rfl⟩
               replace H : (impl_ParseScrape.l0 kj13 y386 x6_2 t369 (t369.length : Int) (wrap64 (x24_2 + 1))) = some (r1, r2) := by first | (rw [hy386]; with_reducible exact H) | (have H2_ := (Option.bind_some _ _).symm.trans H; rw [hy386]; with_reducible exact H2_) | (have H2_ := (Option.bind_some _ _).symm.trans H; with_reducible exact H2_) | with_reducible exact H | (rw [hy386]; exact H) | exact H
               have Ny386 := Aside0.mk hy386
               clear hy386
               have H' := Aside0.mk H
               clear H
               go_wp2_with (first | ((with_reducible refine gate_callee (f := 14) rfl ?_); refine goesL_ (some 38) rfl rfl Tryz.func14 (by kernel_rfl) rfl #[.string (rdOf ByteArray.empty t369 x24_2)] rfl chM ?_; (with_reducible refine (impl_ParseSample.calls kj13 (rdOf ByteArray.empty t369 x24_2) t376 t377 t378 t379 true _ ?side_lay A19.out).mono ?_); (case side_lay => exact LayB.up HT.out chB); rintro e w31 ⟨rfl, hb⟩; refine ⟨_, rfl, ?_⟩; have n0_ := Aside0.mk (Kd.R_below (chR HO_5.out) hb); have n1_ := Aside0.mk (Kd.R_below (chR HO_6.out) hb); have n2_ := Aside0.mk (Kd.R_below (chR HO_22.out) hb); have n3_ := Aside0.mk (below_step chB hb); clear HO_5; clear HO_6; clear HO_22; clear HB; have HO_5 := n0_; have HO_6 := n1_; have HO_22 := n2_; have HB := n3_; clear n0_ n1_ n2_ n3_; (try clear hb); (try clear hb2); (try clear hk); (try clear hi)) | ((with_reducible refine gate_dst (N := 9) rfl ?_); (try (refine gate_guard (by rfl) ?_; dsimp only)); refine box_event ?hg (N := 9) ?hd (cs := #[.string (⟨#[]⟩ : ByteArray), .string (⟨#[]⟩ : ByteArray), .int .i64 0, .int .i64 0]) (t := 35) ?hr ?_; (case hd => rfl); (case hg => rfl); (case hr => first | (go_simp; done) | (go_simp; rfl)); intro gb381 hg w32 hbox hb; have n0_ := Aside0.mk (Kd.R_below (Kd.R_elderB (chR HO_5.out) gb381 (Nat.le_of_eq hg.symm)) hb); have n1_ := Aside0.mk (Kd.R_below (chR HO_6.out) hb); have n2_ := Aside0.mk (Kd.R_below (chR HO_22.out) hb); have n3_ := Aside0.mk (below_step chB hb); have n4_ := Aside0.mk (hbox); have n5_ := Aside0.mk ((by rw [hg]; exact (below_size chB) : w.heap.size ≤ gb381)); have n6_ := Aside0.mk ((by rw [hg]; exact (below_size chB) : w.heap.size ≤ gb381)); clear HO_5; clear HO_6; clear HO_22; clear HB; have HO_5 := n0_; have HO_6 := n1_; have HO_22 := n2_; have HB := n3_; have BK381 := n4_; have GW381 := n5_; have GE381 := n6_; clear n0_ n1_ n2_ n3_ n4_ n5_ n6_; clear hb hbox hg; obtain ⟨hcz33_0, hcz33_1, hcz33_2, hcz33_3, hfz33_0, hfz33_1, hfz33_2, hfz33_3⟩ := blk4 BK381.out; obtain ⟨Ao34, co34, eo34⟩ := Kd.R_slice HO_5.out; subst eo34) | (go_at_call 29; (with_reducible refine (impl_Sample.calls gb381 _ _ x5_2 t376 t377 t378 t379 false _ ?side0 ?side1 ?side2 A21.out).mono ?_); (case side0 => exact (by (with_reducible repeat (first | refine blk_drewN ?_ _ | refine blk_drew ?_ | refine blk_alloc ?_ _)); refine blk_put (cs := #[.string t376, .string t377, .int .i64 t378, .int .i64 0]) ?_ 3 _ rfl; (with_reducible repeat (first | refine blk_drewN ?_ _ | refine blk_drew ?_ | refine blk_alloc ?_ _)); refine blk_put (cs := #[.string t376, .string t377, .int .i64 0, .int .i64 0]) ?_ 2 _ rfl; (with_reducible repeat (first | refine blk_drewN ?_ _ | refine blk_drew ?_ | refine blk_alloc ?_ _)); refine blk_put (cs := #[.string t376, .string (⟨#[]⟩ : ByteArray), .int .i64 0, .int .i64 0]) ?_ 1 _ rfl; (with_reducible repeat (first | refine blk_drewN ?_ _ | refine blk_drew ?_ | refine blk_alloc ?_ _)); refine blk_put (cs := #[.string (⟨#[]⟩ : ByteArray), .string (⟨#[]⟩ : ByteArray), .int .i64 0, .int .i64 0]) ?_ 0 _ rfl; (with_reducible repeat (first | refine blk_drewN ?_ _ | refine blk_drew ?_ | refine blk_alloc ?_ _)); exact BK381.out)); (case side1 => refine (Kd.R_reads' (e := 35) (base := w.heap.size) (ok := fun k_ => (True ∧ k_ ≠ gb381)) (n := x5_2.length) (c := co34) ?_).2.2; exact (by (with_reducible repeat (first | apply Kd.R_alloc | apply Kd.R_drewN | apply Kd.R_drew)); exact (Kd.R_mono (Kd.R_far (p := ⟨gb381, 3, none⟩) (Kd.R_far (p := ⟨gb381, 2, none⟩) (Kd.R_far (p := ⟨gb381, 1, none⟩) (Kd.R_far (p := ⟨gb381, 0, none⟩) (Kd.R_mono HO_5.out (fun k_ hk => (⟨hk, hk.2⟩ : _ ∧ k_ ≠ gb381))) (fun _ hk => hk.2) (.string t376)) (fun _ hk => hk.2) (.string t377)) (fun _ hk => hk.2) (.int .i64 t378)) (fun _ hk => hk.2) (.int .i64 t379)) (fun _ h_ => h_.1)))); (case side2 => exact (Kd.R_reads' HO_5.out).2.1); rintro e w35 ⟨rfl, hb⟩; have n0_ := Aside0.mk (Kd.R_below (by (with_reducible repeat (first | apply Kd.R_alloc | apply Kd.R_drewN | apply Kd.R_drew)); exact (Kd.R_mono (Kd.R_far (p := ⟨gb381, 3, none⟩) (Kd.R_far (p := ⟨gb381, 2, none⟩) (Kd.R_far (p := ⟨gb381, 1, none⟩) (Kd.R_far (p := ⟨gb381, 0, none⟩) (Kd.R_mono HO_5.out (fun k_ hk => (⟨hk, hk.2⟩ : _ ∧ k_ ≠ gb381))) (fun _ hk => hk.2) (.string t376)) (fun _ hk => hk.2) (.string t377)) (fun _ hk => hk.2) (.int .i64 t378)) (fun _ hk => hk.2) (.int .i64 t379)) (fun _ h_ => h_.1))) hb); have n1_ := Aside0.mk (Kd.R_below (by (with_reducible repeat (first | apply Kd.R_alloc | apply Kd.R_drewN | apply Kd.R_drew)); exact (Kd.R_mono (Kd.R_far (p := ⟨gb381, 3, none⟩) (Kd.R_far (p := ⟨gb381, 2, none⟩) (Kd.R_far (p := ⟨gb381, 1, none⟩) (Kd.R_far (p := ⟨gb381, 0, none⟩) (Kd.R_types HO_6.out BK381.out (by decide)) (fun _ hk => hk.2) (.string t376)) (fun _ hk => hk.2) (.string t377)) (fun _ hk => hk.2) (.int .i64 t378)) (fun _ hk => hk.2) (.int .i64 t379)) (fun _ h_ => h_.1))) hb); have n2_ := Aside0.mk (Kd.R_below (by (with_reducible repeat (first | apply Kd.R_alloc | apply Kd.R_drewN | apply Kd.R_drew)); exact (Kd.R_mono (Kd.R_far (p := ⟨gb381, 3, none⟩) (Kd.R_far (p := ⟨gb381, 2, none⟩) (Kd.R_far (p := ⟨gb381, 1, none⟩) (Kd.R_far (p := ⟨gb381, 0, none⟩) (Kd.R_types HO_22.out BK381.out (by decide)) (fun _ hk => hk.2) (.string t376)) (fun _ hk => hk.2) (.string t377)) (fun _ hk => hk.2) (.int .i64 t378)) (fun _ hk => hk.2) (.int .i64 t379)) (fun _ h_ => h_.1))) hb); have n3_ := Aside0.mk (blk_below (g := gb381) (o := .cells #[.string t376, .string t377, .int .i64 t378, .int .i64 t379] 35 (0, 0)) (by (with_reducible repeat (first | refine blk_drewN ?_ _ | refine blk_drew ?_ | refine blk_alloc ?_ _)); refine blk_put (cs := #[.string t376, .string t377, .int .i64 t378, .int .i64 0]) ?_ 3 _ rfl; (with_reducible repeat (first | refine blk_drewN ?_ _ | refine blk_drew ?_ | refine blk_alloc ?_ _)); refine blk_put (cs := #[.string t376, .string t377, .int .i64 0, .int .i64 0]) ?_ 2 _ rfl; (with_reducible repeat (first | refine blk_drewN ?_ _ | refine blk_drew ?_ | refine blk_alloc ?_ _)); refine blk_put (cs := #[.string t376, .string (⟨#[]⟩ : ByteArray), .int .i64 0, .int .i64 0]) ?_ 1 _ rfl; (with_reducible repeat (first | refine blk_drewN ?_ _ | refine blk_drew ?_ | refine blk_alloc ?_ _)); refine blk_put (cs := #[.string (⟨#[]⟩ : ByteArray), .string (⟨#[]⟩ : ByteArray), .int .i64 0, .int .i64 0]) ?_ 0 _ rfl; (with_reducible repeat (first | refine blk_drewN ?_ _ | refine blk_drew ?_ | refine blk_alloc ?_ _)); exact BK381.out) hb); have n4_ := Aside0.mk (below_step chG hb); clear HO_5; clear HO_6; clear HO_22; clear BK381; clear HB; have HO_5 := n0_; have HO_6 := n1_; have HO_22 := n2_; have BK381 := n3_; have HB := n4_; clear n0_ n1_ n2_ n3_ n4_; (try clear hb); (try clear hb2); (try clear hk); (try clear hi); obtain ⟨hcz36_0, hcz36_1, hcz36_2, hcz36_3, hfz36_0, hfz36_1, hfz36_2, hfz36_3⟩ := blk4 BK381.out) | ((with_reducible refine gate_builtin (b := .append) (xs := #[.tmp 53, .tmp 55]) rfl ?_); (try (refine gate_guard (by rfl) ?_; dsimp only)); at_builtin; refine Kd.R_append k35 (w0 := w) w.heap.size rfl (.tmp 53) (.tmp 55) 24 35 (.agg #[(.string ⟨#[]⟩), (.string ⟨#[]⟩), (.int .i64 0), (.int .i64 0)]) 48 rfl Tryz.underlying24 info35 rfl (by decide) (by omega) (.slice Ao34 x5_2.length co34) x5_2 (⟨t376, t377, t378, t379⟩ : S35) [.string t376, .string t377, .int .i64 t378, .int .i64 t379] (fun k_ => k_ ≠ gb381) (fun _ => False) rfl rfl ?aP (fun _ hk => hk.elim) ?aF ?aO ?aB ?aS ?aL ?_; (case aP => exact k35_mkM _ _ _ (⟨t376, t377, t378, t379⟩ : S35)); (case aB => exact chG); (case aF => exact (fun k_ hk => Kd.freshB (g := gb381) (o := .cells #[.string t376, .string t377, .int .i64 t378, .int .i64 t379] 35 (0, 0)) (blx BK381.out) k_ hk)); (case aO => exact (by (with_reducible repeat (first | apply Kd.R_alloc | apply Kd.R_drewN | apply Kd.R_drew)); exact Kd.R_mono HO_5.out (fun _ hk => hk.2))); (case aS => exact (below_size chG)); (case aL => have := LMc30.out; omega); intro v387 w37 ho hb hg hat; rw [← Ny386.out] at ho; have n0_ := Aside0.mk (Kd.R_over' (chR HO_6.out) (Kd.R_typed (chR HO_5.out)) (by decide) hg); have n1_ := Aside0.mk (Kd.R_over' (chR HO_22.out) (Kd.R_typed (chR HO_5.out)) (by decide) hg); have n2_ := Aside0.mk (blk_grown (g := gb381) (o := .cells #[.string t376, .string t377, .int .i64 t378, .int .i64 t379] 35 (0, 0)) (blx BK381.out) hg (Kd.R_away HO_5.out (fun _ hk => hk.2))); have n3_ := Aside0.mk (hb); have n4_ := Aside0.mk (ho); clear HO_6; clear HO_22; clear BK381; clear HB; clear HO_5; have HO_6 := n0_; have HO_22 := n1_; have BK381 := n2_; have HB := n3_; have HO388 := n4_; clear n0_ n1_ n2_ n3_ n4_; clear ho hb hg hat))
               go_roundg kj13
               case measure => have := HJ2.out; have := HK2.out; have := HJ13.out; omega
               case rel => exact ⟨(y386), (x6_2), (wrap64 (x24_2 + 1)), (by first | rfl | (simp; done) | (simp [*]; done)), H', ⟨by have := HJ2.out; have := HK2.out; have := HJ13.out; omega⟩, ⟨by (with_reducible repeat (first | apply Kd.R_alloc | apply Kd.R_drewN | apply Kd.R_drew)); exact Kd.R_mono HO388.out (fun _ hk => trivial)⟩, ⟨by (with_reducible repeat (first | apply Kd.R_alloc | apply Kd.R_drewN | apply Kd.R_drew)); exact HO_6.out⟩, ⟨by (with_reducible repeat (first | apply Kd.R_alloc | apply Kd.R_drewN | apply Kd.R_drew)); exact HO_22.out⟩, ⟨chG⟩⟩
              ·rw [if_neg c30] at H
               exact absurd H (by simp)
            ·replace c20 := Bool.eq_false_iff.mpr c20
             subst c20
             have H1 : (if x6_2.length < 17592186044416 then (impl_ParseScrape.l0 kj13 x5_2 (x6_2 ++ [wrap64 (x24_2 + 1)]) t369 (t369.length : Int) (wrap64 (x24_2 + 1))) else (none)) = some (r1, r2) := by rw [if_neg (show ¬ (false = true) by decide)] at H; exact H
             clear H
             have H := H1
             clear H1
             by_cases c38 : x6_2.length < 17592186044416
             ·rw [if_pos c38] at H
              have LMc38 := Aside0.mk c38
              clear c38
              obtain ⟨y389, hy389⟩ : ∃ y_ : List Int, y_ = (x6_2 ++ [wrap64 (x24_2 + 1)]) := ⟨_, rfl⟩
              replace H : (impl_ParseScrape.l0 kj13 x5_2 y389 t369 (t369.length : Int) (wrap64 (x24_2 + 1))) = some (r1, r2) := by first | (rw [hy389]; with_reducible exact H) | (have H2_ := (Option.bind_some _ _).symm.trans H; rw [hy389]; with_reducible exact H2_) | (have H2_ := (Option.bind_some _ _).symm.trans H; with_reducible exact H2_) | with_reducible exact H | (rw [hy389]; exact H) | exact H
              have Ny389 := Aside0.mk hy389
              clear hy389
              have H' := Aside0.mk H
              clear H
              go_wp2_with (first | ((with_reducible refine gate_callee (f := 14) rfl ?_); refine goesL_ (some 38) rfl rfl Tryz.func14 (by kernel_rfl) rfl #[.string (rdOf ByteArray.empty t369 x24_2)] rfl chM ?_; (with_reducible refine (impl_ParseSample.calls kj13 (rdOf ByteArray.empty t369 x24_2) t376 t377 t378 t379 false _ ?side_lay A19.out).mono ?_); (case side_lay => exact LayB.up HT.out chB); rintro e w39 ⟨rfl, hb⟩; refine ⟨_, rfl, ?_⟩; have n0_ := Aside0.mk (Kd.R_below (chR HO_5.out) hb); have n1_ := Aside0.mk (Kd.R_below (chR HO_6.out) hb); have n2_ := Aside0.mk (Kd.R_below (chR HO_22.out) hb); have n3_ := Aside0.mk (below_step chB hb); clear HO_5; clear HO_6; clear HO_22; clear HB; have HO_5 := n0_; have HO_6 := n1_; have HO_22 := n2_; have HB := n3_; clear n0_ n1_ n2_ n3_; (try clear hb); (try clear hb2); (try clear hk); (try clear hi)) | ((with_reducible refine gate_dst (N := 9) rfl ?_); (try (refine gate_guard (by rfl) ?_; dsimp only)); refine box_event ?hg (N := 9) ?hd (cs := #[.string (⟨#[]⟩ : ByteArray), .string (⟨#[]⟩ : ByteArray), .int .i64 0, .int .i64 0]) (t := 35) ?hr ?_; (case hd => rfl); (case hg => rfl); (case hr => first | (go_simp; done) | (go_simp; rfl)); intro gb381 hg w40 hbox hb; have n0_ := Aside0.mk (Kd.R_below (Kd.R_elderB (chR HO_5.out) gb381 (Nat.le_of_eq hg.symm)) hb); have n1_ := Aside0.mk (Kd.R_below (chR HO_6.out) hb); have n2_ := Aside0.mk (Kd.R_below (chR HO_22.out) hb); have n3_ := Aside0.mk (below_step chB hb); have n4_ := Aside0.mk (hbox); have n5_ := Aside0.mk ((by rw [hg]; exact (below_size chB) : w.heap.size ≤ gb381)); have n6_ := Aside0.mk ((by rw [hg]; exact (below_size chB) : w.heap.size ≤ gb381)); clear HO_5; clear HO_6; clear HO_22; clear HB; have HO_5 := n0_; have HO_6 := n1_; have HO_22 := n2_; have HB := n3_; have BK381 := n4_; have GW381 := n5_; have GE381 := n6_; clear n0_ n1_ n2_ n3_ n4_ n5_ n6_; clear hb hbox hg; obtain ⟨hcz41_0, hcz41_1, hcz41_2, hcz41_3, hfz41_0, hfz41_1, hfz41_2, hfz41_3⟩ := blk4 BK381.out) | ((with_reducible refine gate_builtin (b := .append) (xs := #[.tmp 48, .tmp 51]) rfl ?_); (try (refine gate_guard (by rfl) ?_; dsimp only)); at_builtin; refine Kd.R_append (Kd.int .i64) (w0 := w) w.heap.size rfl (.tmp 48) (.tmp 51) 30 3 (.int .i64 0) 8 rfl Tryz.underlying30 info3 rfl (by decide) (by omega) u6 x6_2 (wrap64 (x24_2 + 1)) [.int .i64 (wrap64 (x24_2 + 1))] (fun _ => True) (fun _ => False) rfl (by first | (go_simp; done) | (go_simp; rfl)) ?aP (fun _ hk => hk.elim) ?aF ?aO ?aB ?aS ?aL ?_; (case aP => exact rfl); (case aB => exact chG); (case aF => exact (fun _ _ => trivial)); (case aO => exact (by (with_reducible repeat (first | apply Kd.R_alloc | apply Kd.R_drewN | apply Kd.R_drew)); exact Kd.R_mono (Kd.R_far (p := ⟨gb381, 3, none⟩) (Kd.R_far (p := ⟨gb381, 2, none⟩) (Kd.R_far (p := ⟨gb381, 1, none⟩) (Kd.R_far (p := ⟨gb381, 0, none⟩) (Kd.R_types HO_6.out BK381.out (by decide)) (fun _ hk => hk.2) (.string t376)) (fun _ hk => hk.2) (.string t377)) (fun _ hk => hk.2) (.int .i64 t378)) (fun _ hk => hk.2) (.int .i64 t379)) (fun _ hk => trivial))); (case aS => exact (below_size chG)); (case aL => have := LMc38.out; omega); intro v390 w42 ho hb hg hat; rw [← Ny389.out] at ho; have n0_ := Aside0.mk (Kd.R_over' (by (with_reducible repeat (first | apply Kd.R_alloc | apply Kd.R_drewN | apply Kd.R_drew)); exact (Kd.R_mono (Kd.R_far (p := ⟨gb381, 3, none⟩) (Kd.R_far (p := ⟨gb381, 2, none⟩) (Kd.R_far (p := ⟨gb381, 1, none⟩) (Kd.R_far (p := ⟨gb381, 0, none⟩) (Kd.R_mono HO_5.out (fun k_ hk => (⟨hk, hk.2⟩ : _ ∧ k_ ≠ gb381))) (fun _ hk => hk.2) (.string t376)) (fun _ hk => hk.2) (.string t377)) (fun _ hk => hk.2) (.int .i64 t378)) (fun _ hk => hk.2) (.int .i64 t379)) (fun _ h_ => h_.1))) (Kd.R_typed (by (with_reducible repeat (first | apply Kd.R_alloc | apply Kd.R_drewN | apply Kd.R_drew)); exact (Kd.R_mono (Kd.R_far (p := ⟨gb381, 3, none⟩) (Kd.R_far (p := ⟨gb381, 2, none⟩) (Kd.R_far (p := ⟨gb381, 1, none⟩) (Kd.R_far (p := ⟨gb381, 0, none⟩) (Kd.R_types HO_6.out BK381.out (by decide)) (fun _ hk => hk.2) (.string t376)) (fun _ hk => hk.2) (.string t377)) (fun _ hk => hk.2) (.int .i64 t378)) (fun _ hk => hk.2) (.int .i64 t379)) (fun _ h_ => h_.1)))) (by decide) hg); have n1_ := Aside0.mk (Kd.R_over' (by (with_reducible repeat (first | apply Kd.R_alloc | apply Kd.R_drewN | apply Kd.R_drew)); exact (Kd.R_mono (Kd.R_far (p := ⟨gb381, 3, none⟩) (Kd.R_far (p := ⟨gb381, 2, none⟩) (Kd.R_far (p := ⟨gb381, 1, none⟩) (Kd.R_far (p := ⟨gb381, 0, none⟩) (Kd.R_types HO_22.out BK381.out (by decide)) (fun _ hk => hk.2) (.string t376)) (fun _ hk => hk.2) (.string t377)) (fun _ hk => hk.2) (.int .i64 t378)) (fun _ hk => hk.2) (.int .i64 t379)) (fun _ h_ => h_.1))) (Kd.R_typed (by (with_reducible repeat (first | apply Kd.R_alloc | apply Kd.R_drewN | apply Kd.R_drew)); exact (Kd.R_mono (Kd.R_far (p := ⟨gb381, 3, none⟩) (Kd.R_far (p := ⟨gb381, 2, none⟩) (Kd.R_far (p := ⟨gb381, 1, none⟩) (Kd.R_far (p := ⟨gb381, 0, none⟩) (Kd.R_types HO_6.out BK381.out (by decide)) (fun _ hk => hk.2) (.string t376)) (fun _ hk => hk.2) (.string t377)) (fun _ hk => hk.2) (.int .i64 t378)) (fun _ hk => hk.2) (.int .i64 t379)) (fun _ h_ => h_.1)))) (by decide) hg); have n2_ := Aside0.mk (blk_grown (g := gb381) (o := .cells #[.string t376, .string t377, .int .i64 t378, .int .i64 t379] 35 (0, 0)) (by (with_reducible repeat (first | refine blk_drewN ?_ _ | refine blk_drew ?_ | refine blk_alloc ?_ _)); refine blk_put (cs := #[.string t376, .string t377, .int .i64 t378, .int .i64 0]) ?_ 3 _ rfl; (with_reducible repeat (first | refine blk_drewN ?_ _ | refine blk_drew ?_ | refine blk_alloc ?_ _)); refine blk_put (cs := #[.string t376, .string t377, .int .i64 0, .int .i64 0]) ?_ 2 _ rfl; (with_reducible repeat (first | refine blk_drewN ?_ _ | refine blk_drew ?_ | refine blk_alloc ?_ _)); refine blk_put (cs := #[.string t376, .string (⟨#[]⟩ : ByteArray), .int .i64 0, .int .i64 0]) ?_ 1 _ rfl; (with_reducible repeat (first | refine blk_drewN ?_ _ | refine blk_drew ?_ | refine blk_alloc ?_ _)); refine blk_put (cs := #[.string (⟨#[]⟩ : ByteArray), .string (⟨#[]⟩ : ByteArray), .int .i64 0, .int .i64 0]) ?_ 0 _ rfl; (with_reducible repeat (first | refine blk_drewN ?_ _ | refine blk_drew ?_ | refine blk_alloc ?_ _)); exact BK381.out) hg (Kd.R_ne HO_6.out BK381.out (by decide))); have n3_ := Aside0.mk (hb); have n4_ := Aside0.mk (ho); clear HO_5; clear HO_22; clear BK381; clear HB; clear HO_6; have HO_5 := n0_; have HO_22 := n1_; have BK381 := n2_; have HB := n3_; have HO391 := n4_; clear n0_ n1_ n2_ n3_ n4_; clear ho hb hg hat))
              go_roundg kj13
              case measure => have := HJ2.out; have := HK2.out; have := HJ13.out; omega
              case rel => exact ⟨(x5_2), (y389), (wrap64 (x24_2 + 1)), (by first | rfl | (simp; done) | (simp [*]; done)), H', ⟨by have := HJ2.out; have := HK2.out; have := HJ13.out; omega⟩, ⟨by (with_reducible repeat (first | apply Kd.R_alloc | apply Kd.R_drewN | apply Kd.R_drew)); exact Kd.R_mono HO_5.out (fun _ hk => trivial)⟩, ⟨by (with_reducible repeat (first | apply Kd.R_alloc | apply Kd.R_drewN | apply Kd.R_drew)); exact HO391.out⟩, ⟨by (with_reducible repeat (first | apply Kd.R_alloc | apply Kd.R_drewN | apply Kd.R_drew)); exact HO_22.out⟩, ⟨chG⟩⟩
             ·rw [if_neg c38] at H
              exact absurd H (by simp)
        ·rw [if_neg c13] at H
         exact absurd H (by simp)
       ·rw [if_neg c12] at H
        exact absurd H (by simp)
      ·rw [if_neg c11] at H
       have c11b0 : decide (x24_2 < (t369.length : Int)) = false := decide_eq_false c11
       clear c11
       simp only [Option.some.injEq, Prod.mk.injEq] at H
       obtain ⟨rfl, rfl⟩ := H
       go_wp2
       go_ret2
       exact ⟨_, _, chE, by (with_reducible repeat (first | apply Kd.R_alloc | apply Kd.R_drewN | apply Kd.R_drew)); exact HO_5.out, by (with_reducible repeat (first | apply Kd.R_alloc | apply Kd.R_drewN | apply Kd.R_drew)); exact HO_6.out, chB⟩
/-! ### spec_l01Parts: function 59 -/
def spec_l01Parts.l0 : Nat → ByteArray → Int → List ByteArray → Int → Int → Option (List ByteArray)
 | 0, _, _, _, _, _ => none
 | k + 1, x0, x1, x5, x6, x7 => if x7 ≤ (x0.size : Int) then (if x7 = (x0.size : Int) then (if 0 ≤ x6 then (if x6 ≤ x7 then (if x5.length < 8796093022208 then (spec_l01Parts.l0 k x0 x1 (x5 ++ [x0.extract (x6 : Int).toNat (x7 : Int).toNat]) (wrap64 (x7 + 1)) (wrap64 (x7 + 1))) else (none)) else (none)) else (none)) else (if 0 ≤ x7 then (if x7 < (x0.size : Int) then (if (bt x0 x7) = x1 then (if 0 ≤ x6 then (if x6 ≤ x7 then (if x5.length < 8796093022208 then (spec_l01Parts.l0 k x0 x1 (x5 ++ [x0.extract (x6 : Int).toNat (x7 : Int).toNat]) (wrap64 (x7 + 1)) (wrap64 (x7 + 1))) else (none)) else (none)) else (none)) else (spec_l01Parts.l0 k x0 x1 x5 x6 (wrap64 (x7 + 1)))) else (none)) else (none))) else (some x5)
def spec_l01Parts.f (k : Nat) (a0 : ByteArray) (a1 : Int) : Option (List ByteArray) := spec_l01Parts.l0 k a0 a1 (([] : List ByteArray)) 0 0
set_option maxHeartbeats 8000000 in
set_option maxRecDepth 100000 in
theorem spec_l01Parts.calls (k : Nat) (a0 : ByteArray) (a1 : Int) (r : List ByteArray) (w : World) (h : spec_l01Parts.f k a0 a1 = some r) :
  Calls Tryz.prog 59 #[.string a0, .int .u8 a1] w fun e w' => ∃ v0_ : Value, e = .returned (v0_) ∧ Kd.R Kd.string 9 w' w.heap.size (fun _ => True) v0_ r ∧ Below w.heap.size w w' := by
 have HB := Aside0.mk (Below.refl w.heap.size w)
 have H : (spec_l01Parts.l0 k a0 a1 (([] : List ByteArray)) 0 0) = some r := h
 clear h
 obtain ⟨y392, hy392⟩ : ∃ y_ : List ByteArray, y_ = (([] : List ByteArray)) := ⟨_, rfl⟩
 replace H : (spec_l01Parts.l0 k a0 a1 y392 0 0) = some r := by first | (rw [hy392]; with_reducible exact H) | (have H2_ := (Option.bind_some _ _).symm.trans H; rw [hy392]; with_reducible exact H2_) | (have H2_ := (Option.bind_some _ _).symm.trans H; with_reducible exact H2_) | with_reducible exact H | (rw [hy392]; exact H) | exact H
 have Ny392 := Aside0.mk hy392
 clear hy392
 have H' := Aside0.mk H
 clear H
 go_enter Tryz.func59, Tryz.ntmps59
 go_wp2_with (first | ((with_reducible refine gate_dst (N := 8) rfl ?_); refine Kd.R_lit Kd.string _ 9 ?hg (N := 8) ?hd (xs := ([] : List ByteArray)) (inner := []) (ok := fun _ => True) (okp := fun _ => True) ?hr ?hp (fun _ hk => hk) trivial (Below.refl _ _) (Nat.le_refl _) (by simp) ?_; (case hd => rfl); (case hg => rfl); (case hr => first | (go_simp; done) | (go_simp; rfl)); (case hp => exact (Reps.none _ _)); intro v393 w3 ho4 hb hg_ hnew_; clear hg_ hnew_; (first | rw [← Ny392.out] at ho4 | (simp only [Int.reduceToNat] at ho4; rw [← Ny392.out] at ho4)); have n0_ := Aside0.mk (Kd.R_lower ho4 (below_size chB)); have n1_ := Aside0.mk (below_step chB hb); clear HB; have HO394 := n0_; have HB := n1_; clear n0_ n1_; clear hb ho4))
 go_loopg [5, 6, 7] k (fun kq v5 v6 v7 w' => ∃ (x5_1 : List ByteArray) (x6_1 : Int) (x7_1 : Int), v6 = .int .i64 x6_1 ∧ v7 = .int .i64 x7_1 ∧ Aside0 (spec_l01Parts.l0 kq a0 a1 x5_1 x6_1 x7_1 = some r) ∧ Aside0 (kq ≤ k) ∧ Aside0 (Kd.R Kd.string 9 w' w.heap.size (fun _ => True) v5 x5_1) ∧ Aside0 (Below w.heap.size w w'))
 case atStart => exact ⟨(y392), (0), (0), (by first | rfl | (simp; done) | (simp [*]; done)), (by first | rfl | (simp; done) | (simp [*]; done)), H', ⟨Nat.le_refl _⟩, ⟨by (with_reducible repeat (first | apply Kd.R_alloc | apply Kd.R_drewN | apply Kd.R_drew)); exact HO394.out⟩, ⟨chB⟩⟩
 case round =>
  clear H'
  try clear p2
  obtain ⟨x5_1, x6_1, x7_1, rfl, rfl, HA, HK1, HO_5, HB⟩ := hrel
  cases gk with
  | zero => exact absurd HA.out (by simp [spec_l01Parts.l0])
  | succ k1 =>
   have H := HA.out
   clear HA
   simp only [spec_l01Parts.l0] at H
   by_cases c5 : x7_1 ≤ (a0.size : Int)
   ·rw [if_pos c5] at H
    have c5b0 : decide (x7_1 ≤ (a0.size : Int)) = true := decide_eq_true c5
    clear c5
    by_cases c6 : x7_1 = (a0.size : Int)
    ·rw [if_pos c6] at H
     have c6b0 : (x7_1 == (a0.size : Int)) = true := beq_iff_eq.mpr c6
     have c6b1 : (x7_1 != (a0.size : Int)) = false := bne_eq_false_iff_eq.mpr c6
     clear c6
     by_cases c7 : 0 ≤ x6_1
     ·rw [if_pos c7] at H
      have c7b0 := eq_true c7
      have c7b1 : decide (0 ≤ x6_1) = true := decide_eq_true c7
      clear c7
      by_cases c8 : x6_1 ≤ x7_1
      ·rw [if_pos c8] at H
       have c8b0 := eq_true c8
       have c8b1 : decide (x6_1 ≤ x7_1) = true := decide_eq_true c8
       clear c8
       have c9b0 := eq_true (of_decide_eq_true chA : x7_1 ≤ (a0.size : Int))
       by_cases c10 : x5_1.length < 8796093022208
       ·rw [if_pos c10] at H
        have LMc10 := Aside0.mk c10
        clear c10
        obtain ⟨y395, hy395⟩ : ∃ y_ : List ByteArray, y_ = (x5_1 ++ [a0.extract (x6_1 : Int).toNat (x7_1 : Int).toNat]) := ⟨_, rfl⟩
        replace H : (spec_l01Parts.l0 k1 a0 a1 y395 (wrap64 (x7_1 + 1)) (wrap64 (x7_1 + 1))) = some r := by first | (rw [hy395]; with_reducible exact H) | (have H2_ := (Option.bind_some _ _).symm.trans H; rw [hy395]; with_reducible exact H2_) | (have H2_ := (Option.bind_some _ _).symm.trans H; with_reducible exact H2_) | with_reducible exact H | (rw [hy395]; exact H) | exact H
        have Ny395 := Aside0.mk hy395
        clear hy395
        have H' := Aside0.mk H
        clear H
        go_wp2_with (first | ((with_reducible refine gate_builtin (b := .append) (xs := #[.tmp 26, .tmp 31]) rfl ?_); at_builtin; refine Kd.R_append Kd.string (w0 := w) w.heap.size rfl (.tmp 26) (.tmp 31) 49 9 (.string ⟨#[]⟩) 16 rfl Tryz.underlying49 info9 rfl (by decide) (by omega) u5 x5_1 (a0.extract (x6_1 : Int).toNat (x7_1 : Int).toNat) [.string (a0.extract (x6_1 : Int).toNat (x7_1 : Int).toNat)] (fun _ => True) (fun _ => False) rfl rfl ?aP (fun _ hk => hk.elim) ?aF ?aO ?aB ?aS ?aL ?_; (case aP => exact rfl); (case aB => exact chB); (case aF => exact (fun _ _ => trivial)); (case aO => exact (chR HO_5.out)); (case aS => exact (below_size chB)); (case aL => have := LMc10.out; omega); intro v396 w11 ho hb hg hat; rw [← Ny395.out] at ho; have n0_ := Aside0.mk (hb); have n1_ := Aside0.mk (ho); clear HB; clear HO_5; have HB := n0_; have HO397 := n1_; clear n0_ n1_; clear ho hb hg hat))
        go_roundg k1
        case measure => have := HK1.out; omega
        case rel => exact ⟨(y395), (wrap64 (x7_1 + 1)), (wrap64 (x7_1 + 1)), (by first | rfl | (simp; done) | (simp [*]; done)), (by first | rfl | (simp; done) | (simp [*]; done)), H', ⟨by have := HK1.out; omega⟩, ⟨by (with_reducible repeat (first | apply Kd.R_alloc | apply Kd.R_drewN | apply Kd.R_drew)); exact HO397.out⟩, ⟨chB⟩⟩
       ·rw [if_neg c10] at H
        exact absurd H (by simp)
      ·rw [if_neg c8] at H
       exact absurd H (by simp)
     ·rw [if_neg c7] at H
      exact absurd H (by simp)
    ·rw [if_neg c6] at H
     have c6b0 : (x7_1 == (a0.size : Int)) = false := beq_eq_false_iff_ne.mpr c6
     have c6b1 : (x7_1 != (a0.size : Int)) = true := bne_iff_ne.mpr c6
     by_cases c12 : 0 ≤ x7_1
     ·rw [if_pos c12] at H
      have c12b0 : decide (0 ≤ x7_1) = true := decide_eq_true c12
      clear c12
      by_cases c13 : x7_1 < (a0.size : Int)
      ·rw [if_pos c13] at H
       have c13b0 : decide (x7_1 < (a0.size : Int)) = true := decide_eq_true c13
       clear c13
       by_cases c15 : (bt a0 x7_1) = a1
       ·rw [if_pos c15] at H
        have c15b0 : ((bt a0 x7_1) == a1) = true := beq_iff_eq.mpr c15
        have c15b1 : ((bt a0 x7_1) != a1) = false := bne_eq_false_iff_eq.mpr c15
        clear c15
        by_cases c16 : 0 ≤ x6_1
        ·rw [if_pos c16] at H
         have c16b0 := eq_true c16
         have c16b1 : decide (0 ≤ x6_1) = true := decide_eq_true c16
         clear c16
         by_cases c17 : x6_1 ≤ x7_1
         ·rw [if_pos c17] at H
          have c17b0 := eq_true c17
          have c17b1 : decide (x6_1 ≤ x7_1) = true := decide_eq_true c17
          clear c17
          have c18b0 := eq_true (of_decide_eq_true chA : x7_1 ≤ (a0.size : Int))
          by_cases c19 : x5_1.length < 8796093022208
          ·rw [if_pos c19] at H
           have LMc19 := Aside0.mk c19
           clear c19
           obtain ⟨y398, hy398⟩ : ∃ y_ : List ByteArray, y_ = (x5_1 ++ [a0.extract (x6_1 : Int).toNat (x7_1 : Int).toNat]) := ⟨_, rfl⟩
           replace H : (spec_l01Parts.l0 k1 a0 a1 y398 (wrap64 (x7_1 + 1)) (wrap64 (x7_1 + 1))) = some r := by first | (rw [hy398]; with_reducible exact H) | (have H2_ := (Option.bind_some _ _).symm.trans H; rw [hy398]; with_reducible exact H2_) | (have H2_ := (Option.bind_some _ _).symm.trans H; with_reducible exact H2_) | with_reducible exact H | (rw [hy398]; exact H) | exact H
           have Ny398 := Aside0.mk hy398
           clear hy398
           have H' := Aside0.mk H
           clear H
           have p14 : 0 ≤ (x7_1 : Int) := of_decide_eq_true chA
           have q14 : x7_1 < (a0.size : Int) := of_decide_eq_true chA
           have hx14 := bt_at a0 x7_1
           replace p14 := eq_true p14
           replace q14 := eq_true q14
           go_wp2_with (first | ((with_reducible refine gate_builtin (b := .append) (xs := #[.tmp 26, .tmp 31]) rfl ?_); at_builtin; refine Kd.R_append Kd.string (w0 := w) w.heap.size rfl (.tmp 26) (.tmp 31) 49 9 (.string ⟨#[]⟩) 16 rfl Tryz.underlying49 info9 rfl (by decide) (by omega) u5 x5_1 (a0.extract (x6_1 : Int).toNat (x7_1 : Int).toNat) [.string (a0.extract (x6_1 : Int).toNat (x7_1 : Int).toNat)] (fun _ => True) (fun _ => False) rfl rfl ?aP (fun _ hk => hk.elim) ?aF ?aO ?aB ?aS ?aL ?_; (case aP => exact rfl); (case aB => exact chB); (case aF => exact (fun _ _ => trivial)); (case aO => exact (chR HO_5.out)); (case aS => exact (below_size chB)); (case aL => have := LMc19.out; omega); intro v399 w20 ho hb hg hat; rw [← Ny398.out] at ho; have n0_ := Aside0.mk (hb); have n1_ := Aside0.mk (ho); clear HB; clear HO_5; have HB := n0_; have HO400 := n1_; clear n0_ n1_; clear ho hb hg hat))
           go_roundg k1
           case measure => have := HK1.out; omega
           case rel => exact ⟨(y398), (wrap64 (x7_1 + 1)), (wrap64 (x7_1 + 1)), (by first | rfl | (simp; done) | (simp [*]; done)), (by first | rfl | (simp; done) | (simp [*]; done)), H', ⟨by have := HK1.out; omega⟩, ⟨by (with_reducible repeat (first | apply Kd.R_alloc | apply Kd.R_drewN | apply Kd.R_drew)); exact HO400.out⟩, ⟨chB⟩⟩
          ·rw [if_neg c19] at H
           exact absurd H (by simp)
         ·rw [if_neg c17] at H
          exact absurd H (by simp)
        ·rw [if_neg c16] at H
         exact absurd H (by simp)
       ·rw [if_neg c15] at H
        have c15b0 : ((bt a0 x7_1) == a1) = false := beq_eq_false_iff_ne.mpr c15
        have c15b1 : ((bt a0 x7_1) != a1) = true := bne_iff_ne.mpr c15
        have H' := Aside0.mk H
        clear H
        have p14 : 0 ≤ (x7_1 : Int) := of_decide_eq_true chA
        have q14 : x7_1 < (a0.size : Int) := of_decide_eq_true chA
        have hx14 := bt_at a0 x7_1
        replace p14 := eq_true p14
        replace q14 := eq_true q14
        go_wp2
        go_roundg k1
        case measure => have := HK1.out; omega
        case rel => exact ⟨(x5_1), (x6_1), (wrap64 (x7_1 + 1)), (by first | rfl | (simp; done) | (simp [*]; done)), (by first | rfl | (simp; done) | (simp [*]; done)), H', ⟨by have := HK1.out; omega⟩, ⟨by (with_reducible repeat (first | apply Kd.R_alloc | apply Kd.R_drewN | apply Kd.R_drew)); exact HO_5.out⟩, ⟨chB⟩⟩
      ·rw [if_neg c13] at H
       exact absurd H (by simp)
     ·rw [if_neg c12] at H
      exact absurd H (by simp)
   ·rw [if_neg c5] at H
    have c5b0 : decide (x7_1 ≤ (a0.size : Int)) = false := decide_eq_false c5
    clear c5
    obtain rfl := Option.some.inj H
    go_wp2
    go_ret
    exact ⟨_, chE, by (with_reducible repeat (first | apply Kd.R_alloc | apply Kd.R_drewN | apply Kd.R_drew)); exact HO_5.out, chB⟩
/-! ### spec_l02Lines: function 31 -/
def spec_l02Lines.f (k : Nat) (a0 : ByteArray) : Option (List ByteArray) := (spec_l01Parts.f k a0 10).bind fun t401 => (if 0 ≤ (wrap64 ((t401.length : Int) - 1)) then (if (wrap64 ((t401.length : Int) - 1)) < (t401.length : Int) then (if (rdOf ByteArray.empty t401 (wrap64 ((t401.length : Int) - 1))).toList = ([] : List UInt8) then (if (wrap64 ((t401.length : Int) - 1)) ≤ (t401.length : Int) then (some (t401.take ((wrap64 ((t401.length : Int) - 1)) : Int).toNat)) else (none)) else (some t401)) else (none)) else (none))
set_option maxHeartbeats 8000000 in
set_option maxRecDepth 100000 in
theorem spec_l02Lines.calls (k : Nat) (a0 : ByteArray) (r : List ByteArray) (w : World) (h : spec_l02Lines.f k a0 = some r) :
  Calls Tryz.prog 31 #[.string a0] w fun e w' => ∃ v0_ : Value, e = .returned (v0_) ∧ Kd.R Kd.string 9 w' w.heap.size (fun _ => True) v0_ r ∧ Below w.heap.size w w' := by
 have HB := Aside0.mk (Below.refl w.heap.size w)
 have H : ((spec_l01Parts.f k a0 10).bind fun t401 => (if 0 ≤ (wrap64 ((t401.length : Int) - 1)) then (if (wrap64 ((t401.length : Int) - 1)) < (t401.length : Int) then (if (rdOf ByteArray.empty t401 (wrap64 ((t401.length : Int) - 1))).toList = ([] : List UInt8) then (if (wrap64 ((t401.length : Int) - 1)) ≤ (t401.length : Int) then (some (t401.take ((wrap64 ((t401.length : Int) - 1)) : Int).toNat)) else (none)) else (some t401)) else (none)) else (none))) = some r := h
 clear h
 replace H := Option.bind_eq_some_iff.mp H
 obtain ⟨t401, A20, H⟩ := H
 replace H : (if 0 ≤ (wrap64 ((t401.length : Int) - 1)) then (if (wrap64 ((t401.length : Int) - 1)) < (t401.length : Int) then (if (rdOf ByteArray.empty t401 (wrap64 ((t401.length : Int) - 1))).toList = ([] : List UInt8) then (if (wrap64 ((t401.length : Int) - 1)) ≤ (t401.length : Int) then (some (t401.take ((wrap64 ((t401.length : Int) - 1)) : Int).toNat)) else (none)) else (some t401)) else (none)) else (none)) = some r := H
 have A2 := Aside0.mk A20
 clear A20
 obtain ⟨ji3, hji3⟩ : ∃ j_ : Int, (wrap64 ((t401.length : Int) - 1)) = j_ := ⟨_, rfl⟩
 replace H : (if 0 ≤ (ji3) then (if (ji3) < (t401.length : Int) then (if (rdOf ByteArray.empty t401 (ji3)).toList = ([] : List UInt8) then (if (ji3) ≤ (t401.length : Int) then (some (t401.take ((ji3) : Int).toNat)) else (none)) else (some t401)) else (none)) else (none)) = some r := by first | (rw [hji3] at H; exact H) | (simp only [hji3] at H ⊢; exact H)
 (try rw [hji3] at A2)
 have hji3w : (IntKind.i64.wrap ((t401.length : Int) - 1)) = ji3 := (i64_w _).trans hji3
 by_cases c4 : 0 ≤ (ji3)
 ·rw [if_pos c4] at H
  have c4b0 : decide (0 ≤ (ji3)) = true := decide_eq_true c4
  clear c4
  by_cases c5 : (ji3) < (t401.length : Int)
  ·rw [if_pos c5] at H
   have c5b0 : decide ((ji3) < (t401.length : Int)) = true := decide_eq_true c5
   clear c5
   by_cases c6 : (rdOf ByteArray.empty t401 (ji3)).toList = ([] : List UInt8)
   ·rw [if_pos c6] at H
    have c6b0 : ((rdOf ByteArray.empty t401 (ji3)).toList == ([] : List UInt8)) = true := beq_iff_eq.mpr c6
    have c6b1 : ((rdOf ByteArray.empty t401 (ji3)).toList != ([] : List UInt8)) = false := bne_eq_false_iff_eq.mpr c6
    clear c6
    by_cases c7 : (ji3) ≤ (t401.length : Int)
    ·rw [if_pos c7] at H
     have c7b0 := eq_true c7
     have c7b1 : decide ((ji3) ≤ (t401.length : Int)) = true := decide_eq_true c7
     clear c7
     obtain ⟨y405, hy405⟩ : ∃ y_ : List ByteArray, y_ = (t401.take ((ji3) : Int).toNat) := ⟨_, rfl⟩
     replace H : (some y405) = some r := by first | (rw [hy405]; with_reducible exact H) | (have H2_ := (Option.bind_some _ _).symm.trans H; rw [hy405]; with_reducible exact H2_) | (have H2_ := (Option.bind_some _ _).symm.trans H; with_reducible exact H2_) | with_reducible exact H | (rw [hy405]; exact H) | exact H
     have Ny405 := Aside0.mk hy405
     clear hy405
     obtain rfl := Option.some.inj H
     go_enter Tryz.func31, Tryz.ntmps31
     go_wp2_with (first | ((with_reducible refine gate_callee (f := 59) rfl ?_); refine goesL_ (some 5) rfl rfl Tryz.func59 (by kernel_rfl) rfl #[.string a0, .int .u8 10] rfl chM ?_; (with_reducible refine (spec_l01Parts.calls k a0 10 t401 _ A2.out).mono ?_); rintro e w8 ⟨v402, rfl, ho0, hb⟩; refine ⟨_, rfl, ?_⟩; have n0_ := Aside0.mk (Kd.R_lower ho0 (below_size chB)); have n1_ := Aside0.mk (below_step chB hb); clear HB; have HO403 := n0_; have HB := n1_; clear n0_ n1_; (try clear hb); (try clear hb2); (try clear hk); (try clear hi); (try clear ho0); obtain ⟨Ao9, co9, eo9⟩ := Kd.R_slice HO403.out; subst eo9; have p404 : 0 ≤ ((ji3) : Int) := of_decide_eq_true chA; have q404 : (ji3) < (t401.length : Int) := of_decide_eq_true chA; obtain ⟨ad404, e404, hx404_0⟩ := Kd.at_string (Kd.R_reads' HO403.out).2.2 (ji3) p404 q404; cases e404; replace p404 := eq_true p404; replace q404 := eq_true q404; have q10 : ((ji3) : Int) ≤ ((t401.length : Int) : Int) := of_decide_eq_true chA; obtain ⟨i010, hi010, _, hsz10, _⟩ := info_parts info9; have hcut10 := cut_to (P := Tryz.prog) 49 9 .i64 Tryz.underlying49 hi010 (some ad404) t401.length co9 (ji3) (of_decide_eq_true chA) q10 (Kd.R_reads' HO403.out).2.1; have hr10 := Kd.R_take (m := ((ji3) : Int).toNat) HO403.out (by omega); have hy10 : y405.length = ((ji3) : Int).toNat := (by rw [Ny405.out, List.length_take]; omega); rw [← Ny405.out] at hr10; rw [← hy10] at hr10 hcut10; clear hy10 hi010 hsz10 HO403; have HO407 := Aside0.mk hr10; clear hr10; replace q10 := eq_true q10))
     go_ret
     exact ⟨_, by first | rfl | (simp [errW_none, errW_some] <;> rfl) | (simp only [← hji3]; first | rfl | (simp [errW_none, errW_some] <;> rfl)) | (simp [*, errW_none, errW_some] <;> rfl), by (with_reducible repeat (first | apply Kd.R_alloc | apply Kd.R_drewN | apply Kd.R_drew)); exact HO407.out, chB⟩
    ·rw [if_neg c7] at H
     exact absurd H (by simp)
   ·rw [if_neg c6] at H
    have c6b0 : ((rdOf ByteArray.empty t401 (ji3)).toList == ([] : List UInt8)) = false := beq_eq_false_iff_ne.mpr c6
    have c6b1 : ((rdOf ByteArray.empty t401 (ji3)).toList != ([] : List UInt8)) = true := bne_iff_ne.mpr c6
    obtain rfl := Option.some.inj H
    go_enter Tryz.func31, Tryz.ntmps31
    go_wp2_with (first | ((with_reducible refine gate_callee (f := 59) rfl ?_); refine goesL_ (some 5) rfl rfl Tryz.func59 (by kernel_rfl) rfl #[.string a0, .int .u8 10] rfl chM ?_; (with_reducible refine (spec_l01Parts.calls k a0 10 t401 _ A2.out).mono ?_); rintro e w11 ⟨v402, rfl, ho0, hb⟩; refine ⟨_, rfl, ?_⟩; have n0_ := Aside0.mk (Kd.R_lower ho0 (below_size chB)); have n1_ := Aside0.mk (below_step chB hb); clear HB; have HO403 := n0_; have HB := n1_; clear n0_ n1_; (try clear hb); (try clear hb2); (try clear hk); (try clear hi); (try clear ho0); obtain ⟨Ao12, co12, eo12⟩ := Kd.R_slice HO403.out; subst eo12; have p404 : 0 ≤ ((ji3) : Int) := of_decide_eq_true chA; have q404 : (ji3) < (t401.length : Int) := of_decide_eq_true chA; obtain ⟨ad404, e404, hx404_0⟩ := Kd.at_string (Kd.R_reads' HO403.out).2.2 (ji3) p404 q404; cases e404; replace p404 := eq_true p404; replace q404 := eq_true q404))
    go_ret
    exact ⟨_, by first | rfl | (simp [errW_none, errW_some] <;> rfl) | (simp only [← hji3]; first | rfl | (simp [errW_none, errW_some] <;> rfl)) | (simp [*, errW_none, errW_some] <;> rfl), by (with_reducible repeat (first | apply Kd.R_alloc | apply Kd.R_drewN | apply Kd.R_drew)); exact HO403.out, chB⟩
  ·rw [if_neg c5] at H
   exact absurd H (by simp)
 ·rw [if_neg c4] at H
  exact absurd H (by simp)
end Go.Proofs.YtbbnlagdahickaaGreatDoor.PFnSamples
