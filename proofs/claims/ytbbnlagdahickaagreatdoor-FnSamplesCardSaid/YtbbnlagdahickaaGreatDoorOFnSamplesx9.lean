/- What the Go functions impl.ParseSample compute, as Lean functions, and the proof that each call comes to just that. Conditions: those at each theorem. -/
import Derived.Test.YtbbnlagdahickaaGreatDoorOFnSamplesx0
import Derived.Test.YtbbnlagdahickaaGreatDoorOFnSamplesx5
import Derived.Test.YtbbnlagdahickaaGreatDoorOFnSamplesx7
import Derived.Test.YtbbnlagdahickaaGreatDoorOFnSamplesx8
namespace Go.Proofs.YtbbnlagdahickaaGreatDoor.PFnSamples
open Go.RowKit Go.Proofs.YtbbnlagdahickaaGreatDoorW.PrintWords Go.Proofs.YtbbnlagdahickaaGreatDoorW.PrintLast Go.Proofs.YtbbnlagdahickaaGreatDoorW.PrintMore
attribute [local go_sem] max2_int min2_int max_two min_two max_three min_three max_four min_four   -- for this text's walks alone
set_option linter.unusedVariables false
set_option linter.unusedSimpArgs false
/-! ### impl_ParseSample: function 14 -/
def impl_ParseSample.f (k : Nat) (a0 : ByteArray) : Option (ByteArray × ByteArray × Int × Int × Bool) := (impl_split.f a0 4).bind fun bt348 => (if bt348.2 = true then (if 2 < (bt348.1.length : Int) then ((impl_ParseMilli.f k (rdOf ByteArray.empty bt348.1 2)).bind fun bt353 => (if 0 < (bt348.1.length : Int) then (if 1 < (bt348.1.length : Int) then (if 3 < (bt348.1.length : Int) then ((impl_atoi.f (rdOf ByteArray.empty bt348.1 3)).bind fun t358 => ((impl_SampleOk.f k (rdOf ByteArray.empty bt348.1 0) (rdOf ByteArray.empty bt348.1 1) bt353.1 t358).bind fun t360 => (if t360 = true then ((impl_SampleLine.f k (rdOf ByteArray.empty bt348.1 0) (rdOf ByteArray.empty bt348.1 1) bt353.1 t358).bind fun t361 => (if t361.toList = a0.toList then (some (rdOf ByteArray.empty bt348.1 0, rdOf ByteArray.empty bt348.1 1, bt353.1, t358, true)) else (some ((⟨#[]⟩ : ByteArray), (⟨#[]⟩ : ByteArray), 0, 0, false)))) else (some ((⟨#[]⟩ : ByteArray), (⟨#[]⟩ : ByteArray), 0, 0, false))))) else (none)) else (none)) else (none))) else (none)) else (some ((⟨#[]⟩ : ByteArray), (⟨#[]⟩ : ByteArray), 0, 0, false)))
def impl_ParseSample.T5 : Bool × List (List Nat × List Nat) := (true, [([], []), ([0], [0]), ([1], [1]), ([], []), ([3], [3]), ([4], [4]), ([], []), ([], []), ([7], [7]), ([8], [8]), ([9], [9]), ([2, 5, 6, 10], [2, 5, 6, 10]), ([], []), ([12, 11, 10, 0, 1, 2, 3, 4, 5, 6, 7, 8, 9, 10, 11, 12], [11, 12])])
def impl_ParseSample.B5 : List Nat := [0, 1, 3, 0, 8, 24, 0, 0, 128, 384, 896, 2047, 0, 8191]
theorem impl_ParseSample.tab5 : rtab .any (opsOf Tryz.f14 5) = impl_ParseSample.T5 := by kernel_rfl
theorem impl_ParseSample.bits5 : waitsOk impl_ParseSample.T5.2 impl_ParseSample.B5 = true := by kernel_rfl
set_option maxHeartbeats 8000000 in
set_option maxRecDepth 100000 in
theorem impl_ParseSample.calls (k : Nat) (a0 : ByteArray) (r1 : ByteArray) (r2 : ByteArray) (r3 : Int) (r4 : Int) (r5 : Bool) (w : World) (HT0 : LayB w) (h : impl_ParseSample.f k a0 = some (r1, r2, r3, r4, r5)) :
  Calls Tryz.prog 14 #[.string a0] w fun e w' => e = .returned (.tuple #[.agg #[.string r1, .string r2, .int .i64 r3, .int .i64 r4], .bool r5]) ∧ Below w.heap.size w w' := by
 have HT := Aside0.mk HT0
 clear HT0
 have hu35 := Tryz.underlying35
 have HB := Aside0.mk (Below.refl w.heap.size w)
 have H : ((impl_split.f a0 4).bind fun bt348 => (if bt348.2 = true then (if 2 < (bt348.1.length : Int) then ((impl_ParseMilli.f k (rdOf ByteArray.empty bt348.1 2)).bind fun bt353 => (if 0 < (bt348.1.length : Int) then (if 1 < (bt348.1.length : Int) then (if 3 < (bt348.1.length : Int) then ((impl_atoi.f (rdOf ByteArray.empty bt348.1 3)).bind fun t358 => ((impl_SampleOk.f k (rdOf ByteArray.empty bt348.1 0) (rdOf ByteArray.empty bt348.1 1) bt353.1 t358).bind fun t360 => (if t360 = true then ((impl_SampleLine.f k (rdOf ByteArray.empty bt348.1 0) (rdOf ByteArray.empty bt348.1 1) bt353.1 t358).bind fun t361 => (if t361.toList = a0.toList then (some (rdOf ByteArray.empty bt348.1 0, rdOf ByteArray.empty bt348.1 1, bt353.1, t358, true)) else (some ((⟨#[]⟩ : ByteArray), (⟨#[]⟩ : ByteArray), 0, 0, false)))) else (some ((⟨#[]⟩ : ByteArray), (⟨#[]⟩ : ByteArray), 0, 0, false))))) else (none)) else (none)) else (none))) else (none)) else (some ((⟨#[]⟩ : ByteArray), (⟨#[]⟩ : ByteArray), 0, 0, false)))) = some (r1, r2, r3, r4, r5) := h
 clear h
 replace H := Option.bind_eq_some_iff.mp H
 obtain ⟨⟨t348, t349⟩, A20, H⟩ := H
 replace H : (if t349 = true then (if 2 < (t348.length : Int) then ((impl_ParseMilli.f k (rdOf ByteArray.empty t348 2)).bind fun bt353 => (if 0 < (t348.length : Int) then (if 1 < (t348.length : Int) then (if 3 < (t348.length : Int) then ((impl_atoi.f (rdOf ByteArray.empty t348 3)).bind fun t358 => ((impl_SampleOk.f k (rdOf ByteArray.empty t348 0) (rdOf ByteArray.empty t348 1) bt353.1 t358).bind fun t360 => (if t360 = true then ((impl_SampleLine.f k (rdOf ByteArray.empty t348 0) (rdOf ByteArray.empty t348 1) bt353.1 t358).bind fun t361 => (if t361.toList = a0.toList then (some (rdOf ByteArray.empty t348 0, rdOf ByteArray.empty t348 1, bt353.1, t358, true)) else (some ((⟨#[]⟩ : ByteArray), (⟨#[]⟩ : ByteArray), 0, 0, false)))) else (some ((⟨#[]⟩ : ByteArray), (⟨#[]⟩ : ByteArray), 0, 0, false))))) else (none)) else (none)) else (none))) else (none)) else (some ((⟨#[]⟩ : ByteArray), (⟨#[]⟩ : ByteArray), 0, 0, false))) = some (r1, r2, r3, r4, r5) := H
 have A2 := Aside0.mk A20
 clear A20
 by_cases c3 : t349 = true
 ·subst c3
  have H1 : (if 2 < (t348.length : Int) then ((impl_ParseMilli.f k (rdOf ByteArray.empty t348 2)).bind fun bt353 => (if 0 < (t348.length : Int) then (if 1 < (t348.length : Int) then (if 3 < (t348.length : Int) then ((impl_atoi.f (rdOf ByteArray.empty t348 3)).bind fun t358 => ((impl_SampleOk.f k (rdOf ByteArray.empty t348 0) (rdOf ByteArray.empty t348 1) bt353.1 t358).bind fun t360 => (if t360 = true then ((impl_SampleLine.f k (rdOf ByteArray.empty t348 0) (rdOf ByteArray.empty t348 1) bt353.1 t358).bind fun t361 => (if t361.toList = a0.toList then (some (rdOf ByteArray.empty t348 0, rdOf ByteArray.empty t348 1, bt353.1, t358, true)) else (some ((⟨#[]⟩ : ByteArray), (⟨#[]⟩ : ByteArray), 0, 0, false)))) else (some ((⟨#[]⟩ : ByteArray), (⟨#[]⟩ : ByteArray), 0, 0, false))))) else (none)) else (none)) else (none))) else (none)) = some (r1, r2, r3, r4, r5) := by rw [if_pos rfl] at H; exact H
  clear H
  have H := H1
  clear H1
  by_cases c4 : 2 < (t348.length : Int)
  ·rw [if_pos c4] at H
   have c4b0 : decide (2 < (t348.length : Int)) = true := decide_eq_true c4
   have c4b1 : decide (2 < t348.length) = true := decide_eq_true (by omega)
   clear c4
   replace H := Option.bind_eq_some_iff.mp H
   obtain ⟨⟨t353, t354⟩, A50, H⟩ := H
   replace H : (if 0 < (t348.length : Int) then (if 1 < (t348.length : Int) then (if 3 < (t348.length : Int) then ((impl_atoi.f (rdOf ByteArray.empty t348 3)).bind fun t358 => ((impl_SampleOk.f k (rdOf ByteArray.empty t348 0) (rdOf ByteArray.empty t348 1) t353 t358).bind fun t360 => (if t360 = true then ((impl_SampleLine.f k (rdOf ByteArray.empty t348 0) (rdOf ByteArray.empty t348 1) t353 t358).bind fun t361 => (if t361.toList = a0.toList then (some (rdOf ByteArray.empty t348 0, rdOf ByteArray.empty t348 1, t353, t358, true)) else (some ((⟨#[]⟩ : ByteArray), (⟨#[]⟩ : ByteArray), 0, 0, false)))) else (some ((⟨#[]⟩ : ByteArray), (⟨#[]⟩ : ByteArray), 0, 0, false))))) else (none)) else (none)) else (none)) = some (r1, r2, r3, r4, r5) := H
   have A5 := Aside0.mk A50
   clear A50
   by_cases c6 : 0 < (t348.length : Int)
   ·rw [if_pos c6] at H
    have c6b0 : decide (0 < (t348.length : Int)) = true := decide_eq_true c6
    have c6b1 : decide (0 < t348.length) = true := decide_eq_true (by omega)
    clear c6
    by_cases c7 : 1 < (t348.length : Int)
    ·rw [if_pos c7] at H
     have c7b0 : decide (1 < (t348.length : Int)) = true := decide_eq_true c7
     have c7b1 : decide (1 < t348.length) = true := decide_eq_true (by omega)
     clear c7
     by_cases c8 : 3 < (t348.length : Int)
     ·rw [if_pos c8] at H
      have c8b0 : decide (3 < (t348.length : Int)) = true := decide_eq_true c8
      have c8b1 : decide (3 < t348.length) = true := decide_eq_true (by omega)
      clear c8
      replace H := Option.bind_eq_some_iff.mp H
      obtain ⟨t358, A90, H⟩ := H
      replace H : ((impl_SampleOk.f k (rdOf ByteArray.empty t348 0) (rdOf ByteArray.empty t348 1) t353 t358).bind fun t360 => (if t360 = true then ((impl_SampleLine.f k (rdOf ByteArray.empty t348 0) (rdOf ByteArray.empty t348 1) t353 t358).bind fun t361 => (if t361.toList = a0.toList then (some (rdOf ByteArray.empty t348 0, rdOf ByteArray.empty t348 1, t353, t358, true)) else (some ((⟨#[]⟩ : ByteArray), (⟨#[]⟩ : ByteArray), 0, 0, false)))) else (some ((⟨#[]⟩ : ByteArray), (⟨#[]⟩ : ByteArray), 0, 0, false)))) = some (r1, r2, r3, r4, r5) := H
      have A9 := Aside0.mk A90
      clear A90
      replace H := Option.bind_eq_some_iff.mp H
      obtain ⟨t360, A100, H⟩ := H
      replace H : (if t360 = true then ((impl_SampleLine.f k (rdOf ByteArray.empty t348 0) (rdOf ByteArray.empty t348 1) t353 t358).bind fun t361 => (if t361.toList = a0.toList then (some (rdOf ByteArray.empty t348 0, rdOf ByteArray.empty t348 1, t353, t358, true)) else (some ((⟨#[]⟩ : ByteArray), (⟨#[]⟩ : ByteArray), 0, 0, false)))) else (some ((⟨#[]⟩ : ByteArray), (⟨#[]⟩ : ByteArray), 0, 0, false))) = some (r1, r2, r3, r4, r5) := H
      have A10 := Aside0.mk A100
      clear A100
      by_cases c11 : t360 = true
      ·subst c11
       have H1 : ((impl_SampleLine.f k (rdOf ByteArray.empty t348 0) (rdOf ByteArray.empty t348 1) t353 t358).bind fun t361 => (if t361.toList = a0.toList then (some (rdOf ByteArray.empty t348 0, rdOf ByteArray.empty t348 1, t353, t358, true)) else (some ((⟨#[]⟩ : ByteArray), (⟨#[]⟩ : ByteArray), 0, 0, false)))) = some (r1, r2, r3, r4, r5) := by rw [if_pos rfl] at H; exact H
       clear H
       have H := H1
       clear H1
       replace H := Option.bind_eq_some_iff.mp H
       obtain ⟨t361, A120, H⟩ := H
       replace H : (if t361.toList = a0.toList then (some (rdOf ByteArray.empty t348 0, rdOf ByteArray.empty t348 1, t353, t358, true)) else (some ((⟨#[]⟩ : ByteArray), (⟨#[]⟩ : ByteArray), 0, 0, false))) = some (r1, r2, r3, r4, r5) := H
       have A12 := Aside0.mk A120
       clear A120
       by_cases c13 : t361.toList = a0.toList
       ·rw [if_pos c13] at H
        have c13b0 : (t361.toList == a0.toList) = true := beq_iff_eq.mpr c13
        have c13b1 : (t361.toList != a0.toList) = false := bne_eq_false_iff_eq.mpr c13
        clear c13
        simp only [Option.some.injEq, Prod.mk.injEq] at H
        obtain ⟨rfl, rfl, rfl, rfl, rfl⟩ := H
        go_enter Tryz.func14, Tryz.ntmps14
        try go_wp2_with (first | ((with_reducible refine gate_dst (N := 2) rfl ?_); refine box_event ?hg (N := 2) ?hd (cs := #[.string (⟨#[]⟩ : ByteArray), .string (⟨#[]⟩ : ByteArray), .int .i64 0, .int .i64 0]) (t := 35) ?hr ?_; (case hd => rfl); (case hg => rfl); (case hr => first | (go_simp; done) | (go_simp; rfl)); intro gb347 hg w14 hbox hb; have n0_ := Aside0.mk (below_step chB hb); have n1_ := Aside0.mk (hbox); have n2_ := Aside0.mk ((by rw [hg]; exact (below_size chB) : w.heap.size ≤ gb347)); have n3_ := Aside0.mk ((by rw [hg]; exact (below_size chB) : w.heap.size ≤ gb347)); clear HB; have HB := n0_; have BK347 := n1_; have GW347 := n2_; have GE347 := n3_; clear n0_ n1_ n2_ n3_; clear hb hbox hg) | ((with_reducible refine gate_callee (f := 33) rfl ?_); refine goesL_ (some 11) rfl rfl Tryz.func33 (by kernel_rfl) rfl #[.string a0, .int .i64 4] rfl chM ?_; (with_reducible refine (impl_split.calls a0 4 t348 true _ ?side_lay A2.out).mono ?_); (case side_lay => exact LayB.up HT.out chG); rintro e w15 ⟨v350, rfl, ho0, hb⟩; refine ⟨_, rfl, ?_⟩; have n0_ := Aside0.mk (Kd.R_lower ho0 (below_size chG)); have n1_ := Aside0.mk (blk_below (g := gb347) (o := .cells #[.string (⟨#[]⟩ : ByteArray), .string (⟨#[]⟩ : ByteArray), .int .i64 0, .int .i64 0] 35 (0, 0)) (blx BK347.out) hb); have n2_ := Aside0.mk (below_step chG hb); clear BK347; clear HB; have HO351 := n0_; have BK347 := n1_; have HB := n2_; clear n0_ n1_ n2_; (try clear hb); (try clear hb2); (try clear hk); (try clear hi); (try clear ho0); obtain ⟨Ao16, co16, eo16⟩ := Kd.R_slice HO351.out; subst eo16; have p352 : 0 ≤ (2 : Int) := (by omega); have q352 : 2 < (t348.length : Int) := of_decide_eq_true chA; obtain ⟨ad352, e352, hx352_0⟩ := Kd.at_string (Kd.R_reads' HO351.out).2.2 2 p352 q352; cases e352; (try simp only [show (2 : Int).toNat = 2 from rfl, Nat.reduceMul, Nat.reduceEqDiff, Go.Addr.add, ↓reduceIte] at hx352_0); have qi352 : (2 < t348.length) = True := eq_true (by omega); (try rw [show ((2 : Int)).toNat = 2 from rfl] at hx352_0); replace p352 := eq_true p352; replace q352 := eq_true q352) | ((with_reducible refine gate_callee (f := 34) rfl ?_); refine goesL_ (some 21) rfl rfl Tryz.func34 (by kernel_rfl) rfl #[.string (rdOf ByteArray.empty t348 2)] rfl chM ?_; (with_reducible refine (impl_ParseMilli.calls k (rdOf ByteArray.empty t348 2) t353 t354 _ ?side_lay A5.out).mono ?_); (case side_lay => exact LayB.up HT.out chG); rintro e w17 ⟨rfl, hb⟩; refine ⟨_, rfl, ?_⟩; have n0_ := Aside0.mk (Kd.R_below (chR HO351.out) hb); have n1_ := Aside0.mk (blk_below (g := gb347) (o := .cells #[.string (⟨#[]⟩ : ByteArray), .string (⟨#[]⟩ : ByteArray), .int .i64 0, .int .i64 0] 35 (0, 0)) (blx BK347.out) hb); have n2_ := Aside0.mk (below_step chG hb); clear HO351; clear BK347; clear HB; have HO351 := n0_; have BK347 := n1_; have HB := n2_; clear n0_ n1_ n2_; (try clear hb); (try clear hb2); (try clear hk); (try clear hi)))
        have n0_ := Aside0.mk (Kd.R_drew HO351.out)
        have n1_ := Aside0.mk (blk_drew BK347.out)
        have n2_ := Aside0.mk (below_drew1 HB.out)
        clear HO351
        clear BK347
        clear HB
        have HO351 := n0_
        have BK347 := n1_
        have HB := n2_
        clear n0_ n1_ n2_
        have p355 : 0 ≤ (0 : Int) := (by omega)
        have q355 : 0 < (t348.length : Int) := of_decide_eq_true chA
        obtain ⟨ad355, e355, hx355_0⟩ := Kd.at_string (Kd.R_reads' HO351.out).2.2 0 p355 q355
        obtain rfl : ad352 = ad355 := (by injection e355)
        have qi355 : (0 < t348.length) = True := eq_true (by omega)
        (try rw [show ((0 : Int)).toNat = 0 from rfl] at hx355_0)
        (try rw [Addr.add_zero'] at hx355_0)
        replace p355 := eq_true p355
        replace q355 := eq_true q355
        have p356 : 0 ≤ (1 : Int) := (by omega)
        have q356 : 1 < (t348.length : Int) := of_decide_eq_true chA
        obtain ⟨ad356, e356, hx356_0⟩ := Kd.at_string (Kd.R_reads' HO351.out).2.2 1 p356 q356
        obtain rfl : ad352 = ad356 := (by injection e356)
        (try simp only [show (1 : Int).toNat = 1 from rfl, Nat.reduceMul, Nat.reduceEqDiff, Go.Addr.add, ↓reduceIte] at hx356_0)
        have qi356 : (1 < t348.length) = True := eq_true (by omega)
        (try rw [show ((1 : Int)).toNat = 1 from rfl] at hx356_0)
        replace p356 := eq_true p356
        replace q356 := eq_true q356
        have p357 : 0 ≤ (3 : Int) := (by omega)
        have q357 : 3 < (t348.length : Int) := of_decide_eq_true chA
        obtain ⟨ad357, e357, hx357_0⟩ := Kd.at_string (Kd.R_reads' HO351.out).2.2 3 p357 q357
        obtain rfl : ad352 = ad357 := (by injection e357)
        (try simp only [show (3 : Int).toNat = 3 from rfl, Nat.reduceMul, Nat.reduceEqDiff, Go.Addr.add, ↓reduceIte] at hx357_0)
        have qi357 : (3 < t348.length) = True := eq_true (by omega)
        (try rw [show ((3 : Int)).toNat = 3 from rfl] at hx357_0)
        replace p357 := eq_true p357
        replace q357 := eq_true q357
        refine start_ (n := 14) (S := fun w' => w'.cell? ad352 = some (.string (rdOf ByteArray.empty t348 0)) ∧ w'.cell? ⟨ad352.block, ad352.off + 1, none⟩ = some (.string (rdOf ByteArray.empty t348 1)) ∧ w'.cell? ⟨ad352.block, ad352.off + 3, none⟩ = some (.string (rdOf ByteArray.empty t348 3))) (ds := []) #[false, false, false, false, false, false, false, false, false, false, false, false, false, false] (by kernel_rfl) rfl rfl ⟨hx355_0, hx356_0, hx357_0⟩ (fun hHeld => ?_); refine with_tabW impl_ParseSample.tab5 impl_ParseSample.bits5 (fun HT_ HW_ => ?_)
        generalize w17.drew = w18 at HO351 BK347 HB hx355_0 hx356_0 hx357_0 hHeld ⊢
        refine pure_ (i := 0) (N := some 24) (v := ?_) (a' := ?_) #[true, false, false, false, false, false, false, false, false, false, false, false, false, false] rfl rfl (any_of HT_.out (by kernel_rfl)) (fun _ _ _ h => h) (Or.inl ⟨by rfl, ?_⟩) ?_ ?_
        rotate_left
        ·intro w'
         go_simp
         with_reducible rfl
        rotate_left
        ·simp only [Act.put, List.setIfInBounds_toArray, List.set_cons_zero, List.set_cons_succ, i64_w, i32_w]
         rfl
        refine pure_ (i := 1) (N := some 25) (v := ?_) (a' := ?_) #[true, true, false, false, false, false, false, false, false, false, false, false, false, false] rfl rfl (any_of HT_.out (by kernel_rfl)) (fun _ _ _ h => h) (Or.inl ⟨by rfl, ?_⟩) ?_ ?_
        rotate_left
        ·intro w'
         go_simp
         with_reducible rfl
        rotate_left
        ·simp only [Act.put, List.setIfInBounds_toArray, List.set_cons_zero, List.set_cons_succ, i64_w, i32_w]
         rfl
        refine pure_ (i := 3) (N := some 27) (v := ?_) (a' := ?_) #[true, true, false, true, false, false, false, false, false, false, false, false, false, false] rfl rfl (any_of HT_.out (by kernel_rfl)) (fun _ _ _ h => h) (Or.inl ⟨by rfl, ?_⟩) ?_ ?_
        rotate_left
        ·intro w'
         go_simp
         with_reducible rfl
        rotate_left
        ·simp only [Act.put, List.setIfInBounds_toArray, List.set_cons_zero, List.set_cons_succ, i64_w, i32_w]
         rfl
        refine pure_ (i := 4) (N := some 28) (v := ?_) (a' := ?_) #[true, true, false, true, true, false, false, false, false, false, false, false, false, false] rfl rfl (any_of HT_.out (by kernel_rfl)) (fun _ _ _ h => h) (Or.inl ⟨by rfl, ?_⟩) ?_ ?_
        rotate_left
        ·intro w'
         go_simp
         with_reducible rfl
        rotate_left
        ·simp only [Act.put, List.setIfInBounds_toArray, List.set_cons_zero, List.set_cons_succ, i64_w, i32_w]
         rfl
        refine pure_ (i := 6) (N := some 30) (v := ?_) (a' := ?_) #[true, true, false, true, true, false, true, false, false, false, false, false, false, false] rfl rfl (any_of HT_.out (by kernel_rfl)) (fun _ _ _ h => h) (Or.inl ⟨by rfl, ?_⟩) ?_ ?_
        rotate_left
        ·intro w'
         go_simp
         with_reducible rfl
        rotate_left
        ·simp only [Act.put, List.setIfInBounds_toArray, List.set_cons_zero, List.set_cons_succ, i64_w, i32_w]
         rfl
        refine pure_ (i := 7) (N := some 31) (v := ?_) (a' := ?_) #[true, true, false, true, true, false, true, true, false, false, false, false, false, false] rfl rfl (any_of HT_.out (by kernel_rfl)) (fun _ _ _ h => h) (Or.inl ⟨by rfl, ?_⟩) ?_ ?_
        rotate_left
        ·intro w'
         go_simp
         with_reducible rfl
        rotate_left
        ·simp only [Act.put, List.setIfInBounds_toArray, List.set_cons_zero, List.set_cons_succ, i64_w, i32_w]
         rfl
        refine pure_ (i := 8) (N := some 32) (v := ?_) (a' := ?_) #[true, true, false, true, true, false, true, true, true, false, false, false, false, false] rfl rfl (any_of HT_.out (by kernel_rfl)) (fun _ _ _ h => h) (Or.inl ⟨by rfl, ?_⟩) ?_ ?_
        rotate_left
        ·intro w'
         go_simp
         with_reducible rfl
        rotate_left
        ·simp only [Act.put, List.setIfInBounds_toArray, List.set_cons_zero, List.set_cons_succ, i64_w, i32_w]
         rfl
        refine take_ (i := 2) (N := some 26) (v := ?_) (a' := ?_) #[true, true, true, true, true, false, true, true, true, false, false, false, false, false] rfl rfl (take_ofW HT_.out HW_.out (by kernel_rfl)) (fun _ _ _ h => h) (Or.inl ⟨by rfl, ?_⟩) hHeld ?_ ?_
        rotate_left
        ·rintro w' ⟨s0, s1, s2⟩
         go_simp
         with_reducible rfl
        rotate_left
        ·simp only [Act.put, List.setIfInBounds_toArray, List.set_cons_zero, List.set_cons_succ, i64_w, i32_w]
         rfl
        refine take_ (i := 5) (N := some 29) (v := ?_) (a' := ?_) #[true, true, true, true, true, true, true, true, true, false, false, false, false, false] rfl rfl (take_ofW HT_.out HW_.out (by kernel_rfl)) (fun _ _ _ h => h) (Or.inl ⟨by rfl, ?_⟩) hHeld ?_ ?_
        rotate_left
        ·rintro w' ⟨s0, s1, s2⟩
         go_simp
         with_reducible rfl
        rotate_left
        ·simp only [Act.put, List.setIfInBounds_toArray, List.set_cons_zero, List.set_cons_succ, i64_w, i32_w]
         rfl
        refine take_ (i := 9) (N := some 33) (v := ?_) (a' := ?_) #[true, true, true, true, true, true, true, true, true, true, false, false, false, false] rfl rfl (take_ofW HT_.out HW_.out (by kernel_rfl)) (fun _ _ _ h => h) (Or.inl ⟨by rfl, ?_⟩) hHeld ?_ ?_
        rotate_left
        ·rintro w' ⟨s0, s1, s2⟩
         go_simp
         with_reducible rfl
        rotate_left
        ·simp only [Act.put, List.setIfInBounds_toArray, List.set_cons_zero, List.set_cons_succ, i64_w, i32_w]
         rfl
        refine join_ (σ := Nat) 1 #[true, true, true, true, true, true, true, true, true, true, true, true, true, false] (fun s_ => [(34, .int .i64 t358), (8, .pointer (some ⟨s_, 0, none⟩)), (35, .agg #[.string (rdOf ByteArray.empty t348 0), .string (rdOf ByteArray.empty t348 1), .int .i64 t353, .int .i64 t358])]) (fun s_ w' => (w'.cell? ad352 = some (.string (rdOf ByteArray.empty t348 0)) ∧ w'.cell? ⟨ad352.block, ad352.off + 1, none⟩ = some (.string (rdOf ByteArray.empty t348 1)) ∧ w'.cell? ⟨ad352.block, ad352.off + 3, none⟩ = some (.string (rdOf ByteArray.empty t348 3))) ∧ (Kd.R Kd.string 9 w' w.heap.size (fun _ => True) (.slice (some ad352) t348.length co16) t348) ∧ (w'.heap[gb347]? = some (.cells #[.string (⟨#[]⟩ : ByteArray), .string (⟨#[]⟩ : ByteArray), .int .i64 0, .int .i64 0] 35 (0, 0))) ∧ (w'.heap[s_]? = some (.cells #[.string (⟨#[]⟩ : ByteArray), .string (⟨#[]⟩ : ByteArray), .int .i64 0, .int .i64 0] 35 (0, 0))) ∧ (w.heap.size ≤ s_) ∧ (w.heap.size ≤ s_) ∧ (gb347 ≠ s_) ∧ (s_ ≠ gb347) ∧ (Below w.heap.size w w')) ?_ ?_
        rotate_left
        ·intro hCont
         refine two_ (i := 10) (j := 12) (Ni := some 34) (Nj := some 8) #[true, true, true, true, true, true, true, true, true, true, true, false, false, false] #[true, true, true, true, true, true, true, true, true, true, false, false, true, false] rfl rfl rfl rfl (two_of HT_.out (by kernel_rfl)) (by decide) (by decide) (fun K hK => ?_) (fun K hK => ?_)
         ·skip
          refine goes_ Tryz.func35 (by kernel_rfl) rfl #[.string (rdOf ByteArray.empty t348 3)] (by rfl) rfl rfl chM ?_
          with_reducible refine (impl_atoi.calls (rdOf ByteArray.empty t348 3) t358 _ ?side_lay A9.out).mono ?_
          (case side_lay => exact LayB.up HT.out chG)
          rintro e w19 ⟨rfl, hb⟩
          have HS0_ := (hb.cell (World.block_lt_of_cell? _ _ (hHeld.1))).trans (hHeld.1)
          have HS1_ := (hb.cell (World.block_lt_of_cell? _ _ (hHeld.2.1))).trans (hHeld.2.1)
          have HS2_ := (hb.cell (World.block_lt_of_cell? _ _ (hHeld.2.2))).trans (hHeld.2.2)
          refine ⟨_, rfl, ?_⟩
          have n0_ := Aside0.mk (Kd.R_below (chR HO351.out) hb)
          have n1_ := Aside0.mk (blk_below (g := gb347) (o := .cells #[.string (⟨#[]⟩ : ByteArray), .string (⟨#[]⟩ : ByteArray), .int .i64 0, .int .i64 0] 35 (0, 0)) (blx BK347.out) hb)
          have n2_ := Aside0.mk (below_step chG hb)
          clear HO351
          clear BK347
          clear HB
          have HO351 := n0_
          have BK347 := n1_
          have HB := n2_
          clear n0_ n1_ n2_
          (try clear hb)
          (try clear hb2)
          (try clear hk)
          (try clear hi)
          refine hK.out _ _ ⟨HS0_, HS1_, HS2_⟩ (fun hHeld => ?_)
          clear hK K
          refine norm_ (a' := ?_) ?_ ?_
          rotate_left
          ·show Act.put _ (some 34) _ = _
           simp only [Act.put, List.setIfInBounds_toArray, List.set_cons_zero, List.set_cons_succ, i64_w, i32_w]
           rfl
          refine pure_ (i := 11) (N := some 35) (v := ?_) (a' := ?_) #[true, true, true, true, true, true, true, true, true, true, true, true, false, false] rfl rfl (any_of HT_.out (by kernel_rfl)) (fun _ _ _ h => h) (Or.inl ⟨by rfl, ?_⟩) ?_ ?_
          rotate_left
          ·intro w'
           go_simp
           with_reducible rfl
          rotate_left
          ·simp only [Act.put, List.setIfInBounds_toArray, List.set_cons_zero, List.set_cons_succ, i64_w, i32_w]
           rfl
          refine one_ (i := 12) (N := some 8) #[true, true, true, true, true, true, true, true, true, true, true, true, true, false] rfl rfl (one_of HT_.out (by kernel_rfl)) (by decide) (fun K hK => ?_)
          refine box_step ?hg (N := 8) ?hd (cs := #[.string (⟨#[]⟩ : ByteArray), .string (⟨#[]⟩ : ByteArray), .int .i64 0, .int .i64 0]) (t := 35) ?hr ?_; (case hd => rfl); (case hg => rfl); (case hr => first | (go_simp; done) | (go_simp; rfl))
          intro gb359 hg w20 hbox hb
          have HS0_ := (hb.cell (World.block_lt_of_cell? _ _ (hHeld.1))).trans (hHeld.1)
          have HS1_ := (hb.cell (World.block_lt_of_cell? _ _ (hHeld.2.1))).trans (hHeld.2.1)
          have HS2_ := (hb.cell (World.block_lt_of_cell? _ _ (hHeld.2.2))).trans (hHeld.2.2)
          have n0_ := Aside0.mk (Kd.R_below (chR HO351.out) hb)
          have n1_ := Aside0.mk (blk_below (g := gb347) (o := .cells #[.string (⟨#[]⟩ : ByteArray), .string (⟨#[]⟩ : ByteArray), .int .i64 0, .int .i64 0] 35 (0, 0)) (blx BK347.out) hb)
          have n2_ := Aside0.mk (below_step chG hb)
          have n3_ := Aside0.mk (hbox)
          have n4_ := Aside0.mk ((by rw [hg]; exact (below_size chG) : w.heap.size ≤ gb359))
          have n5_ := Aside0.mk ((by rw [hg]; exact (below_size chG) : w.heap.size ≤ gb359))
          have n6_ := Aside0.mk ((by rw [hg]; exact Nat.ne_of_lt (blk_lt (g := gb347) (o := .cells #[.string (⟨#[]⟩ : ByteArray), .string (⟨#[]⟩ : ByteArray), .int .i64 0, .int .i64 0] 35 (0, 0)) (blx BK347.out)) : gb347 ≠ gb359))
          have n7_ := Aside0.mk ((by rw [hg]; exact Nat.ne_of_gt (blk_lt (g := gb347) (o := .cells #[.string (⟨#[]⟩ : ByteArray), .string (⟨#[]⟩ : ByteArray), .int .i64 0, .int .i64 0] 35 (0, 0)) (blx BK347.out)) : gb359 ≠ gb347))
          clear HO351
          clear BK347
          clear HB
          have HO351 := n0_
          have BK347 := n1_
          have HB := n2_
          have BK359 := n3_
          have GW359 := n4_
          have GE359 := n5_
          have NB347_359 := n6_
          have NB359_347 := n7_
          clear n0_ n1_ n2_ n3_ n4_ n5_ n6_ n7_
          clear hb hbox hg
          refine hK.out _ _ ⟨HS0_, HS1_, HS2_⟩ (fun hHeld => ?_)
          clear hK K
          refine norm_ (a' := ?_) ?_ ?_
          rotate_left
          ·show Act.put _ (some 8) _ = _
           simp only [Act.put, List.setIfInBounds_toArray, List.set_cons_zero, List.set_cons_succ, i64_w, i32_w]
           rfl
          exact norm_ (by simp only [putAll, Act.put, List.setIfInBounds_toArray, List.set_cons_zero, List.set_cons_succ]) (hCont (gb359) _ ⟨hHeld, (chR HO351.out), (blx BK347.out), (blx BK359.out), GW359.out, GE359.out, NB347_359.out, NB359_347.out, chG⟩)
         ·skip
          refine box_step ?hg (N := 8) ?hd (cs := #[.string (⟨#[]⟩ : ByteArray), .string (⟨#[]⟩ : ByteArray), .int .i64 0, .int .i64 0]) (t := 35) ?hr ?_; (case hd => rfl); (case hg => rfl); (case hr => first | (go_simp; done) | (go_simp; rfl))
          intro gb359 hg w19 hbox hb
          have HS0_ := (hb.cell (World.block_lt_of_cell? _ _ (hHeld.1))).trans (hHeld.1)
          have HS1_ := (hb.cell (World.block_lt_of_cell? _ _ (hHeld.2.1))).trans (hHeld.2.1)
          have HS2_ := (hb.cell (World.block_lt_of_cell? _ _ (hHeld.2.2))).trans (hHeld.2.2)
          have n0_ := Aside0.mk (Kd.R_below (chR HO351.out) hb)
          have n1_ := Aside0.mk (blk_below (g := gb347) (o := .cells #[.string (⟨#[]⟩ : ByteArray), .string (⟨#[]⟩ : ByteArray), .int .i64 0, .int .i64 0] 35 (0, 0)) (blx BK347.out) hb)
          have n2_ := Aside0.mk (below_step chG hb)
          have n3_ := Aside0.mk (hbox)
          have n4_ := Aside0.mk ((by rw [hg]; exact (below_size chG) : w.heap.size ≤ gb359))
          have n5_ := Aside0.mk ((by rw [hg]; exact (below_size chG) : w.heap.size ≤ gb359))
          have n6_ := Aside0.mk ((by rw [hg]; exact Nat.ne_of_lt (blk_lt (g := gb347) (o := .cells #[.string (⟨#[]⟩ : ByteArray), .string (⟨#[]⟩ : ByteArray), .int .i64 0, .int .i64 0] 35 (0, 0)) (blx BK347.out)) : gb347 ≠ gb359))
          have n7_ := Aside0.mk ((by rw [hg]; exact Nat.ne_of_gt (blk_lt (g := gb347) (o := .cells #[.string (⟨#[]⟩ : ByteArray), .string (⟨#[]⟩ : ByteArray), .int .i64 0, .int .i64 0] 35 (0, 0)) (blx BK347.out)) : gb359 ≠ gb347))
          clear HO351
          clear BK347
          clear HB
          have HO351 := n0_
          have BK347 := n1_
          have HB := n2_
          have BK359 := n3_
          have GW359 := n4_
          have GE359 := n5_
          have NB347_359 := n6_
          have NB359_347 := n7_
          clear n0_ n1_ n2_ n3_ n4_ n5_ n6_ n7_
          clear hb hbox hg
          refine hK.out _ _ ⟨HS0_, HS1_, HS2_⟩ (fun hHeld => ?_)
          clear hK K
          refine norm_ (a' := ?_) ?_ ?_
          rotate_left
          ·show Act.put _ (some 8) _ = _
           simp only [Act.put, List.setIfInBounds_toArray, List.set_cons_zero, List.set_cons_succ, i64_w, i32_w]
           rfl
          refine one_ (i := 10) (N := some 34) #[true, true, true, true, true, true, true, true, true, true, true, false, true, false] rfl rfl (one_of HT_.out (by kernel_rfl)) (by decide) (fun K hK => ?_)
          refine goes_ Tryz.func35 (by kernel_rfl) rfl #[.string (rdOf ByteArray.empty t348 3)] (by rfl) rfl rfl chM ?_
          with_reducible refine (impl_atoi.calls (rdOf ByteArray.empty t348 3) t358 _ ?side_lay A9.out).mono ?_
          (case side_lay => exact LayB.up HT.out chG)
          rintro e w20 ⟨rfl, hb⟩
          have HS0_ := (hb.cell (World.block_lt_of_cell? _ _ (hHeld.1))).trans (hHeld.1)
          have HS1_ := (hb.cell (World.block_lt_of_cell? _ _ (hHeld.2.1))).trans (hHeld.2.1)
          have HS2_ := (hb.cell (World.block_lt_of_cell? _ _ (hHeld.2.2))).trans (hHeld.2.2)
          refine ⟨_, rfl, ?_⟩
          have n0_ := Aside0.mk (Kd.R_below (chR HO351.out) hb)
          have n1_ := Aside0.mk (blk_below (g := gb347) (o := .cells #[.string (⟨#[]⟩ : ByteArray), .string (⟨#[]⟩ : ByteArray), .int .i64 0, .int .i64 0] 35 (0, 0)) (blx BK347.out) hb)
          have n2_ := Aside0.mk (blk_below (g := gb359) (o := .cells #[.string (⟨#[]⟩ : ByteArray), .string (⟨#[]⟩ : ByteArray), .int .i64 0, .int .i64 0] 35 (0, 0)) (blx BK359.out) hb)
          have n3_ := Aside0.mk (below_step chG hb)
          clear HO351
          clear BK347
          clear BK359
          clear HB
          have HO351 := n0_
          have BK347 := n1_
          have BK359 := n2_
          have HB := n3_
          clear n0_ n1_ n2_ n3_
          (try clear hb)
          (try clear hb2)
          (try clear hk)
          (try clear hi)
          refine hK.out _ _ ⟨HS0_, HS1_, HS2_⟩ (fun hHeld => ?_)
          clear hK K
          refine norm_ (a' := ?_) ?_ ?_
          rotate_left
          ·show Act.put _ (some 34) _ = _
           simp only [Act.put, List.setIfInBounds_toArray, List.set_cons_zero, List.set_cons_succ, i64_w, i32_w]
           rfl
          refine pure_ (i := 11) (N := some 35) (v := ?_) (a' := ?_) #[true, true, true, true, true, true, true, true, true, true, true, true, true, false] rfl rfl (any_of HT_.out (by kernel_rfl)) (fun _ _ _ h => h) (Or.inl ⟨by rfl, ?_⟩) ?_ ?_
          rotate_left
          ·intro w'
           go_simp
           with_reducible rfl
          rotate_left
          ·simp only [Act.put, List.setIfInBounds_toArray, List.set_cons_zero, List.set_cons_succ, i64_w, i32_w]
           rfl
          exact norm_ (by simp only [putAll, Act.put, List.setIfInBounds_toArray, List.set_cons_zero, List.set_cons_succ]) (hCont (gb359) _ ⟨hHeld, (chR HO351.out), (blx BK347.out), (blx BK359.out), GW359.out, GE359.out, NB347_359.out, NB359_347.out, chG⟩)
        rintro gb359 w21 ⟨hS_, h0_, h1_, h2_, h3_, h4_, h5_, h6_, h7_⟩
        have n0_ : Aside0 (Kd.R Kd.string 9 w21 w.heap.size (fun _ => True) (.slice (some ad352) t348.length co16) t348) := ⟨h0_⟩
        have n1_ : Aside0 (w21.heap[gb347]? = some (.cells #[.string (⟨#[]⟩ : ByteArray), .string (⟨#[]⟩ : ByteArray), .int .i64 0, .int .i64 0] 35 (0, 0))) := ⟨h1_⟩
        have n2_ : Aside0 (w21.heap[gb359]? = some (.cells #[.string (⟨#[]⟩ : ByteArray), .string (⟨#[]⟩ : ByteArray), .int .i64 0, .int .i64 0] 35 (0, 0))) := ⟨h2_⟩
        have n3_ : Aside0 (w.heap.size ≤ gb359) := ⟨h3_⟩
        have n4_ : Aside0 (w.heap.size ≤ gb359) := ⟨h4_⟩
        have n5_ : Aside0 (gb347 ≠ gb359) := ⟨h5_⟩
        have n6_ : Aside0 (gb359 ≠ gb347) := ⟨h6_⟩
        have n7_ : Aside0 (Below w.heap.size w w21) := ⟨h7_⟩
        clear HO351
        clear BK347
        clear HB
        clear h0_ h1_ h2_ h3_ h4_ h5_ h6_ h7_
        have HO351 := n0_
        have BK347 := n1_
        have BK359 := n2_
        have GW359 := n3_
        have GE359 := n4_
        have NB347_359 := n5_
        have NB359_347 := n6_
        have HB := n7_
        clear n0_ n1_ n2_ n3_ n4_ n5_ n6_ n7_
        have hHeld : w21.cell? ad352 = some (.string (rdOf ByteArray.empty t348 0)) ∧ w21.cell? ⟨ad352.block, ad352.off + 1, none⟩ = some (.string (rdOf ByteArray.empty t348 1)) ∧ w21.cell? ⟨ad352.block, ad352.off + 3, none⟩ = some (.string (rdOf ByteArray.empty t348 3)) := hS_
        refine norm_ (a' := ?_) ?_ ?_
        rotate_left
        ·simp only [putAll, Act.put, List.setIfInBounds_toArray, List.set_cons_zero, List.set_cons_succ]
         rfl
        refine one_ (i := 13) (N := none) #[true, true, true, true, true, true, true, true, true, true, true, true, true, true] rfl rfl (one_of HT_.out (by kernel_rfl)) (by decide) (fun K hK => ?_)
        have hs22 : w21.cell? ⟨gb359, 0, none⟩ = some (.string (⟨#[]⟩ : ByteArray)) := (blk_cell BK359.out 0).trans rfl
        have hfs22 := blk_frozen BK359.out 0
        have hns22_0 := NB347_359.out
        have hms22_0 := NB359_347.out
        have hs23 : w21.cell? ⟨gb359, 1, none⟩ = some (.string (⟨#[]⟩ : ByteArray)) := (blk_cell BK359.out 1).trans rfl
        have hfs23 := blk_frozen BK359.out 1
        have hns23_0 := NB347_359.out
        have hms23_0 := NB359_347.out
        have hs24 : w21.cell? ⟨gb359, 2, none⟩ = some (.int .i64 0) := (blk_cell BK359.out 2).trans rfl
        have hfs24 := blk_frozen BK359.out 2
        have hns24_0 := NB347_359.out
        have hms24_0 := NB359_347.out
        have hs25 : w21.cell? ⟨gb359, 3, none⟩ = some (.int .i64 0) := (blk_cell BK359.out 3).trans rfl
        have hfs25 := blk_frozen BK359.out 3
        have hns25_0 := NB347_359.out
        have hms25_0 := NB359_347.out
        refine skip_ (w1 := ?_) (by rfl) rfl ?_ ?_
        rotate_left
        ·go_simp
         rfl
        refine hK.out _ _ ⟨((cell_far (p := ⟨gb359, _, none⟩) (by first | exact Kd.own_blk (Kd.R_ne HO351.out BK359.out (by decide)) | (rw [add_block]; exact Kd.own_blk (Kd.R_ne HO351.out BK359.out (by decide))) | (show (Addr.add _ _).block ≠ _; rw [add_block]; exact Kd.own_blk (Kd.R_ne HO351.out BK359.out (by decide))) | (dsimp only; exact Kd.own_blk (Kd.R_ne HO351.out BK359.out (by decide)))) _).trans (((cell_far (p := ⟨gb359, _, none⟩) (by first | exact Kd.own_blk (Kd.R_ne HO351.out BK359.out (by decide)) | (rw [add_block]; exact Kd.own_blk (Kd.R_ne HO351.out BK359.out (by decide))) | (show (Addr.add _ _).block ≠ _; rw [add_block]; exact Kd.own_blk (Kd.R_ne HO351.out BK359.out (by decide))) | (dsimp only; exact Kd.own_blk (Kd.R_ne HO351.out BK359.out (by decide)))) _).trans (((cell_far (p := ⟨gb359, _, none⟩) (by first | exact Kd.own_blk (Kd.R_ne HO351.out BK359.out (by decide)) | (rw [add_block]; exact Kd.own_blk (Kd.R_ne HO351.out BK359.out (by decide))) | (show (Addr.add _ _).block ≠ _; rw [add_block]; exact Kd.own_blk (Kd.R_ne HO351.out BK359.out (by decide))) | (dsimp only; exact Kd.own_blk (Kd.R_ne HO351.out BK359.out (by decide)))) _).trans (((cell_far (p := ⟨gb359, _, none⟩) (by first | exact Kd.own_blk (Kd.R_ne HO351.out BK359.out (by decide)) | (rw [add_block]; exact Kd.own_blk (Kd.R_ne HO351.out BK359.out (by decide))) | (show (Addr.add _ _).block ≠ _; rw [add_block]; exact Kd.own_blk (Kd.R_ne HO351.out BK359.out (by decide))) | (dsimp only; exact Kd.own_blk (Kd.R_ne HO351.out BK359.out (by decide)))) _).trans (hHeld.1)))))))), ((cell_far (p := ⟨gb359, _, none⟩) (by first | exact Kd.own_blk (Kd.R_ne HO351.out BK359.out (by decide)) | (rw [add_block]; exact Kd.own_blk (Kd.R_ne HO351.out BK359.out (by decide))) | (show (Addr.add _ _).block ≠ _; rw [add_block]; exact Kd.own_blk (Kd.R_ne HO351.out BK359.out (by decide))) | (dsimp only; exact Kd.own_blk (Kd.R_ne HO351.out BK359.out (by decide)))) _).trans (((cell_far (p := ⟨gb359, _, none⟩) (by first | exact Kd.own_blk (Kd.R_ne HO351.out BK359.out (by decide)) | (rw [add_block]; exact Kd.own_blk (Kd.R_ne HO351.out BK359.out (by decide))) | (show (Addr.add _ _).block ≠ _; rw [add_block]; exact Kd.own_blk (Kd.R_ne HO351.out BK359.out (by decide))) | (dsimp only; exact Kd.own_blk (Kd.R_ne HO351.out BK359.out (by decide)))) _).trans (((cell_far (p := ⟨gb359, _, none⟩) (by first | exact Kd.own_blk (Kd.R_ne HO351.out BK359.out (by decide)) | (rw [add_block]; exact Kd.own_blk (Kd.R_ne HO351.out BK359.out (by decide))) | (show (Addr.add _ _).block ≠ _; rw [add_block]; exact Kd.own_blk (Kd.R_ne HO351.out BK359.out (by decide))) | (dsimp only; exact Kd.own_blk (Kd.R_ne HO351.out BK359.out (by decide)))) _).trans (((cell_far (p := ⟨gb359, _, none⟩) (by first | exact Kd.own_blk (Kd.R_ne HO351.out BK359.out (by decide)) | (rw [add_block]; exact Kd.own_blk (Kd.R_ne HO351.out BK359.out (by decide))) | (show (Addr.add _ _).block ≠ _; rw [add_block]; exact Kd.own_blk (Kd.R_ne HO351.out BK359.out (by decide))) | (dsimp only; exact Kd.own_blk (Kd.R_ne HO351.out BK359.out (by decide)))) _).trans (hHeld.2.1)))))))), ((cell_far (p := ⟨gb359, _, none⟩) (by first | exact Kd.own_blk (Kd.R_ne HO351.out BK359.out (by decide)) | (rw [add_block]; exact Kd.own_blk (Kd.R_ne HO351.out BK359.out (by decide))) | (show (Addr.add _ _).block ≠ _; rw [add_block]; exact Kd.own_blk (Kd.R_ne HO351.out BK359.out (by decide))) | (dsimp only; exact Kd.own_blk (Kd.R_ne HO351.out BK359.out (by decide)))) _).trans (((cell_far (p := ⟨gb359, _, none⟩) (by first | exact Kd.own_blk (Kd.R_ne HO351.out BK359.out (by decide)) | (rw [add_block]; exact Kd.own_blk (Kd.R_ne HO351.out BK359.out (by decide))) | (show (Addr.add _ _).block ≠ _; rw [add_block]; exact Kd.own_blk (Kd.R_ne HO351.out BK359.out (by decide))) | (dsimp only; exact Kd.own_blk (Kd.R_ne HO351.out BK359.out (by decide)))) _).trans (((cell_far (p := ⟨gb359, _, none⟩) (by first | exact Kd.own_blk (Kd.R_ne HO351.out BK359.out (by decide)) | (rw [add_block]; exact Kd.own_blk (Kd.R_ne HO351.out BK359.out (by decide))) | (show (Addr.add _ _).block ≠ _; rw [add_block]; exact Kd.own_blk (Kd.R_ne HO351.out BK359.out (by decide))) | (dsimp only; exact Kd.own_blk (Kd.R_ne HO351.out BK359.out (by decide)))) _).trans (((cell_far (p := ⟨gb359, _, none⟩) (by first | exact Kd.own_blk (Kd.R_ne HO351.out BK359.out (by decide)) | (rw [add_block]; exact Kd.own_blk (Kd.R_ne HO351.out BK359.out (by decide))) | (show (Addr.add _ _).block ≠ _; rw [add_block]; exact Kd.own_blk (Kd.R_ne HO351.out BK359.out (by decide))) | (dsimp only; exact Kd.own_blk (Kd.R_ne HO351.out BK359.out (by decide)))) _).trans (hHeld.2.2))))))))⟩ (fun hHeld => ?_)
        clear hK K
        refine done_ (done_of HT_.out (by kernel_rfl)) ?_
        have hnb26 := NB359_347.out
        have hnc26 := NB347_359.out
        obtain ⟨hcz27_0, hcz27_1, hcz27_2, hcz27_3, hfz27_0, hfz27_1, hfz27_2, hfz27_3⟩ := blk4 BK359.out
        try go_wp2_with (first | ((with_reducible refine gate_callee (f := 20) rfl ?_); refine goesL_ (some 37) rfl rfl Tryz.func20 (by kernel_rfl) rfl #[.agg #[.string (rdOf ByteArray.empty t348 0), .string (rdOf ByteArray.empty t348 1), .int .i64 t353, .int .i64 t358]] rfl chM ?_; (with_reducible refine (impl_SampleOk.calls k (rdOf ByteArray.empty t348 0) (rdOf ByteArray.empty t348 1) t353 t358 true _ A10.out).mono ?_); rintro e w28 ⟨rfl, hb⟩; refine ⟨_, rfl, ?_⟩; have n0_ := Aside0.mk (Kd.R_below (by (with_reducible repeat (first | apply Kd.R_alloc | apply Kd.R_drewN | apply Kd.R_drew)); exact (Kd.R_mono (Kd.R_far (p := ⟨gb359, 3, none⟩) (Kd.R_far (p := ⟨gb359, 2, none⟩) (Kd.R_far (p := ⟨gb359, 1, none⟩) (Kd.R_far (p := ⟨gb359, 0, none⟩) (Kd.R_types HO351.out BK359.out (by decide)) (fun _ hk => hk.2) (.string (rdOf ByteArray.empty t348 0))) (fun _ hk => hk.2) (.string (rdOf ByteArray.empty t348 1))) (fun _ hk => hk.2) (.int .i64 t353)) (fun _ hk => hk.2) (.int .i64 t358)) (fun _ h_ => h_.1))) hb); have n1_ := Aside0.mk (blk_below (g := gb347) (o := .cells #[.string (⟨#[]⟩ : ByteArray), .string (⟨#[]⟩ : ByteArray), .int .i64 0, .int .i64 0] 35 (0, 0)) (blx BK347.out) hb); have n2_ := Aside0.mk (blk_below (g := gb359) (o := .cells #[.string (rdOf ByteArray.empty t348 0), .string (rdOf ByteArray.empty t348 1), .int .i64 t353, .int .i64 t358] 35 (0, 0)) (by (with_reducible repeat (first | refine blk_drewN ?_ _ | refine blk_drew ?_ | refine blk_alloc ?_ _)); refine blk_put (cs := #[.string (rdOf ByteArray.empty t348 0), .string (rdOf ByteArray.empty t348 1), .int .i64 t353, .int .i64 0]) ?_ 3 _ rfl; (with_reducible repeat (first | refine blk_drewN ?_ _ | refine blk_drew ?_ | refine blk_alloc ?_ _)); refine blk_put (cs := #[.string (rdOf ByteArray.empty t348 0), .string (rdOf ByteArray.empty t348 1), .int .i64 0, .int .i64 0]) ?_ 2 _ rfl; (with_reducible repeat (first | refine blk_drewN ?_ _ | refine blk_drew ?_ | refine blk_alloc ?_ _)); refine blk_put (cs := #[.string (rdOf ByteArray.empty t348 0), .string (⟨#[]⟩ : ByteArray), .int .i64 0, .int .i64 0]) ?_ 1 _ rfl; (with_reducible repeat (first | refine blk_drewN ?_ _ | refine blk_drew ?_ | refine blk_alloc ?_ _)); refine blk_put (cs := #[.string (⟨#[]⟩ : ByteArray), .string (⟨#[]⟩ : ByteArray), .int .i64 0, .int .i64 0]) ?_ 0 _ rfl; (with_reducible repeat (first | refine blk_drewN ?_ _ | refine blk_drew ?_ | refine blk_alloc ?_ _)); exact BK359.out) hb); have n3_ := Aside0.mk (below_step chG hb); clear HO351; clear BK347; clear BK359; clear HB; have HO351 := n0_; have BK347 := n1_; have BK359 := n2_; have HB := n3_; clear n0_ n1_ n2_ n3_; (try clear hb); (try clear hb2); (try clear hk); (try clear hi); obtain ⟨hcz29_0, hcz29_1, hcz29_2, hcz29_3, hfz29_0, hfz29_1, hfz29_2, hfz29_3⟩ := blk4 BK359.out) | (go_at_call 15; (with_reducible refine (impl_SampleLine.calls k (rdOf ByteArray.empty t348 0) (rdOf ByteArray.empty t348 1) t353 t358 t361 _ ?side_lay A12.out).mono ?_); (case side_lay => exact LayB.up HT.out chG); rintro e w30 ⟨rfl, hb⟩; have n0_ := Aside0.mk (Kd.R_below (chR HO351.out) hb); have n1_ := Aside0.mk (blk_below (g := gb347) (o := .cells #[.string (⟨#[]⟩ : ByteArray), .string (⟨#[]⟩ : ByteArray), .int .i64 0, .int .i64 0] 35 (0, 0)) (blx BK347.out) hb); have n2_ := Aside0.mk (blk_below (g := gb359) (o := .cells #[.string (rdOf ByteArray.empty t348 0), .string (rdOf ByteArray.empty t348 1), .int .i64 t353, .int .i64 t358] 35 (0, 0)) (blx BK359.out) hb); have n3_ := Aside0.mk (below_step chG hb); clear HO351; clear BK347; clear BK359; clear HB; have HO351 := n0_; have BK347 := n1_; have BK359 := n2_; have HB := n3_; clear n0_ n1_ n2_ n3_; (try clear hb); (try clear hb2); (try clear hk); (try clear hi); obtain ⟨hcz31_0, hcz31_1, hcz31_2, hcz31_3, hfz31_0, hfz31_1, hfz31_2, hfz31_3⟩ := blk4 BK359.out; obtain ⟨hcz32_0, hcz32_1, hcz32_2, hcz32_3, hfz32_0, hfz32_1, hfz32_2, hfz32_3⟩ := blk4 BK347.out))
        refine bodyPost_ret (results_ct rfl _ _ gb347 35 #[.string (rdOf ByteArray.empty t348 0), .string (rdOf ByteArray.empty t348 1), .int .i64 t353, .int .i64 t358] (0, 0) _ rfl (by (with_reducible repeat (first | refine blk_drewN ?_ _ | refine blk_drew ?_ | refine blk_alloc ?_ _)); refine blk_put (cs := #[.string (rdOf ByteArray.empty t348 0), .string (rdOf ByteArray.empty t348 1), .int .i64 t353, .int .i64 0]) ?_ 3 _ rfl; (with_reducible repeat (first | refine blk_drewN ?_ _ | refine blk_drew ?_ | refine blk_alloc ?_ _)); refine blk_put (cs := #[.string (rdOf ByteArray.empty t348 0), .string (rdOf ByteArray.empty t348 1), .int .i64 0, .int .i64 0]) ?_ 2 _ rfl; (with_reducible repeat (first | refine blk_drewN ?_ _ | refine blk_drew ?_ | refine blk_alloc ?_ _)); refine blk_put (cs := #[.string (rdOf ByteArray.empty t348 0), .string (⟨#[]⟩ : ByteArray), .int .i64 0, .int .i64 0]) ?_ 1 _ rfl; (with_reducible repeat (first | refine blk_drewN ?_ _ | refine blk_drew ?_ | refine blk_alloc ?_ _)); refine blk_put (cs := #[.string (⟨#[]⟩ : ByteArray), .string (⟨#[]⟩ : ByteArray), .int .i64 0, .int .i64 0]) ?_ 0 _ rfl; (with_reducible repeat (first | refine blk_drewN ?_ _ | refine blk_drew ?_ | refine blk_alloc ?_ _)); exact BK347.out) Tryz.underlying35 rfl (by kernel_rfl)) rfl ?_
        exact ⟨chE, chG⟩
       ·rw [if_neg c13] at H
        have c13b0 : (t361.toList == a0.toList) = false := beq_eq_false_iff_ne.mpr c13
        have c13b1 : (t361.toList != a0.toList) = true := bne_iff_ne.mpr c13
        simp only [Option.some.injEq, Prod.mk.injEq] at H
        obtain ⟨rfl, rfl, rfl, rfl, rfl⟩ := H
        go_enter Tryz.func14, Tryz.ntmps14
        try go_wp2_with (first | ((with_reducible refine gate_dst (N := 2) rfl ?_); refine box_event ?hg (N := 2) ?hd (cs := #[.string (⟨#[]⟩ : ByteArray), .string (⟨#[]⟩ : ByteArray), .int .i64 0, .int .i64 0]) (t := 35) ?hr ?_; (case hd => rfl); (case hg => rfl); (case hr => first | (go_simp; done) | (go_simp; rfl)); intro gb347 hg w33 hbox hb; have n0_ := Aside0.mk (below_step chB hb); have n1_ := Aside0.mk (hbox); have n2_ := Aside0.mk ((by rw [hg]; exact (below_size chB) : w.heap.size ≤ gb347)); have n3_ := Aside0.mk ((by rw [hg]; exact (below_size chB) : w.heap.size ≤ gb347)); clear HB; have HB := n0_; have BK347 := n1_; have GW347 := n2_; have GE347 := n3_; clear n0_ n1_ n2_ n3_; clear hb hbox hg) | ((with_reducible refine gate_callee (f := 33) rfl ?_); refine goesL_ (some 11) rfl rfl Tryz.func33 (by kernel_rfl) rfl #[.string a0, .int .i64 4] rfl chM ?_; (with_reducible refine (impl_split.calls a0 4 t348 true _ ?side_lay A2.out).mono ?_); (case side_lay => exact LayB.up HT.out chG); rintro e w34 ⟨v350, rfl, ho0, hb⟩; refine ⟨_, rfl, ?_⟩; have n0_ := Aside0.mk (Kd.R_lower ho0 (below_size chG)); have n1_ := Aside0.mk (blk_below (g := gb347) (o := .cells #[.string (⟨#[]⟩ : ByteArray), .string (⟨#[]⟩ : ByteArray), .int .i64 0, .int .i64 0] 35 (0, 0)) (blx BK347.out) hb); have n2_ := Aside0.mk (below_step chG hb); clear BK347; clear HB; have HO351 := n0_; have BK347 := n1_; have HB := n2_; clear n0_ n1_ n2_; (try clear hb); (try clear hb2); (try clear hk); (try clear hi); (try clear ho0); obtain ⟨Ao35, co35, eo35⟩ := Kd.R_slice HO351.out; subst eo35; have p352 : 0 ≤ (2 : Int) := (by omega); have q352 : 2 < (t348.length : Int) := of_decide_eq_true chA; obtain ⟨ad352, e352, hx352_0⟩ := Kd.at_string (Kd.R_reads' HO351.out).2.2 2 p352 q352; cases e352; (try simp only [show (2 : Int).toNat = 2 from rfl, Nat.reduceMul, Nat.reduceEqDiff, Go.Addr.add, ↓reduceIte] at hx352_0); have qi352 : (2 < t348.length) = True := eq_true (by omega); (try rw [show ((2 : Int)).toNat = 2 from rfl] at hx352_0); replace p352 := eq_true p352; replace q352 := eq_true q352) | ((with_reducible refine gate_callee (f := 34) rfl ?_); refine goesL_ (some 21) rfl rfl Tryz.func34 (by kernel_rfl) rfl #[.string (rdOf ByteArray.empty t348 2)] rfl chM ?_; (with_reducible refine (impl_ParseMilli.calls k (rdOf ByteArray.empty t348 2) t353 t354 _ ?side_lay A5.out).mono ?_); (case side_lay => exact LayB.up HT.out chG); rintro e w36 ⟨rfl, hb⟩; refine ⟨_, rfl, ?_⟩; have n0_ := Aside0.mk (Kd.R_below (chR HO351.out) hb); have n1_ := Aside0.mk (blk_below (g := gb347) (o := .cells #[.string (⟨#[]⟩ : ByteArray), .string (⟨#[]⟩ : ByteArray), .int .i64 0, .int .i64 0] 35 (0, 0)) (blx BK347.out) hb); have n2_ := Aside0.mk (below_step chG hb); clear HO351; clear BK347; clear HB; have HO351 := n0_; have BK347 := n1_; have HB := n2_; clear n0_ n1_ n2_; (try clear hb); (try clear hb2); (try clear hk); (try clear hi)))
        have n0_ := Aside0.mk (Kd.R_drew HO351.out)
        have n1_ := Aside0.mk (blk_drew BK347.out)
        have n2_ := Aside0.mk (below_drew1 HB.out)
        clear HO351
        clear BK347
        clear HB
        have HO351 := n0_
        have BK347 := n1_
        have HB := n2_
        clear n0_ n1_ n2_
        have p355 : 0 ≤ (0 : Int) := (by omega)
        have q355 : 0 < (t348.length : Int) := of_decide_eq_true chA
        obtain ⟨ad355, e355, hx355_0⟩ := Kd.at_string (Kd.R_reads' HO351.out).2.2 0 p355 q355
        obtain rfl : ad352 = ad355 := (by injection e355)
        have qi355 : (0 < t348.length) = True := eq_true (by omega)
        (try rw [show ((0 : Int)).toNat = 0 from rfl] at hx355_0)
        (try rw [Addr.add_zero'] at hx355_0)
        replace p355 := eq_true p355
        replace q355 := eq_true q355
        have p356 : 0 ≤ (1 : Int) := (by omega)
        have q356 : 1 < (t348.length : Int) := of_decide_eq_true chA
        obtain ⟨ad356, e356, hx356_0⟩ := Kd.at_string (Kd.R_reads' HO351.out).2.2 1 p356 q356
        obtain rfl : ad352 = ad356 := (by injection e356)
        (try simp only [show (1 : Int).toNat = 1 from rfl, Nat.reduceMul, Nat.reduceEqDiff, Go.Addr.add, ↓reduceIte] at hx356_0)
        have qi356 : (1 < t348.length) = True := eq_true (by omega)
        (try rw [show ((1 : Int)).toNat = 1 from rfl] at hx356_0)
        replace p356 := eq_true p356
        replace q356 := eq_true q356
        have p357 : 0 ≤ (3 : Int) := (by omega)
        have q357 : 3 < (t348.length : Int) := of_decide_eq_true chA
        obtain ⟨ad357, e357, hx357_0⟩ := Kd.at_string (Kd.R_reads' HO351.out).2.2 3 p357 q357
        obtain rfl : ad352 = ad357 := (by injection e357)
        (try simp only [show (3 : Int).toNat = 3 from rfl, Nat.reduceMul, Nat.reduceEqDiff, Go.Addr.add, ↓reduceIte] at hx357_0)
        have qi357 : (3 < t348.length) = True := eq_true (by omega)
        (try rw [show ((3 : Int)).toNat = 3 from rfl] at hx357_0)
        replace p357 := eq_true p357
        replace q357 := eq_true q357
        refine start_ (n := 14) (S := fun w' => w'.cell? ad352 = some (.string (rdOf ByteArray.empty t348 0)) ∧ w'.cell? ⟨ad352.block, ad352.off + 1, none⟩ = some (.string (rdOf ByteArray.empty t348 1)) ∧ w'.cell? ⟨ad352.block, ad352.off + 3, none⟩ = some (.string (rdOf ByteArray.empty t348 3))) (ds := []) #[false, false, false, false, false, false, false, false, false, false, false, false, false, false] (by kernel_rfl) rfl rfl ⟨hx355_0, hx356_0, hx357_0⟩ (fun hHeld => ?_); refine with_tabW impl_ParseSample.tab5 impl_ParseSample.bits5 (fun HT_ HW_ => ?_)
        generalize w36.drew = w37 at HO351 BK347 HB hx355_0 hx356_0 hx357_0 hHeld ⊢
        refine pure_ (i := 0) (N := some 24) (v := ?_) (a' := ?_) #[true, false, false, false, false, false, false, false, false, false, false, false, false, false] rfl rfl (any_of HT_.out (by kernel_rfl)) (fun _ _ _ h => h) (Or.inl ⟨by rfl, ?_⟩) ?_ ?_
        rotate_left
        ·intro w'
         go_simp
         with_reducible rfl
        rotate_left
        ·simp only [Act.put, List.setIfInBounds_toArray, List.set_cons_zero, List.set_cons_succ, i64_w, i32_w]
         rfl
        refine pure_ (i := 1) (N := some 25) (v := ?_) (a' := ?_) #[true, true, false, false, false, false, false, false, false, false, false, false, false, false] rfl rfl (any_of HT_.out (by kernel_rfl)) (fun _ _ _ h => h) (Or.inl ⟨by rfl, ?_⟩) ?_ ?_
        rotate_left
        ·intro w'
         go_simp
         with_reducible rfl
        rotate_left
        ·simp only [Act.put, List.setIfInBounds_toArray, List.set_cons_zero, List.set_cons_succ, i64_w, i32_w]
         rfl
        refine pure_ (i := 3) (N := some 27) (v := ?_) (a' := ?_) #[true, true, false, true, false, false, false, false, false, false, false, false, false, false] rfl rfl (any_of HT_.out (by kernel_rfl)) (fun _ _ _ h => h) (Or.inl ⟨by rfl, ?_⟩) ?_ ?_
        rotate_left
        ·intro w'
         go_simp
         with_reducible rfl
        rotate_left
        ·simp only [Act.put, List.setIfInBounds_toArray, List.set_cons_zero, List.set_cons_succ, i64_w, i32_w]
         rfl
        refine pure_ (i := 4) (N := some 28) (v := ?_) (a' := ?_) #[true, true, false, true, true, false, false, false, false, false, false, false, false, false] rfl rfl (any_of HT_.out (by kernel_rfl)) (fun _ _ _ h => h) (Or.inl ⟨by rfl, ?_⟩) ?_ ?_
        rotate_left
        ·intro w'
         go_simp
         with_reducible rfl
        rotate_left
        ·simp only [Act.put, List.setIfInBounds_toArray, List.set_cons_zero, List.set_cons_succ, i64_w, i32_w]
         rfl
        refine pure_ (i := 6) (N := some 30) (v := ?_) (a' := ?_) #[true, true, false, true, true, false, true, false, false, false, false, false, false, false] rfl rfl (any_of HT_.out (by kernel_rfl)) (fun _ _ _ h => h) (Or.inl ⟨by rfl, ?_⟩) ?_ ?_
        rotate_left
        ·intro w'
         go_simp
         with_reducible rfl
        rotate_left
        ·simp only [Act.put, List.setIfInBounds_toArray, List.set_cons_zero, List.set_cons_succ, i64_w, i32_w]
         rfl
        refine pure_ (i := 7) (N := some 31) (v := ?_) (a' := ?_) #[true, true, false, true, true, false, true, true, false, false, false, false, false, false] rfl rfl (any_of HT_.out (by kernel_rfl)) (fun _ _ _ h => h) (Or.inl ⟨by rfl, ?_⟩) ?_ ?_
        rotate_left
        ·intro w'
         go_simp
         with_reducible rfl
        rotate_left
        ·simp only [Act.put, List.setIfInBounds_toArray, List.set_cons_zero, List.set_cons_succ, i64_w, i32_w]
         rfl
        refine pure_ (i := 8) (N := some 32) (v := ?_) (a' := ?_) #[true, true, false, true, true, false, true, true, true, false, false, false, false, false] rfl rfl (any_of HT_.out (by kernel_rfl)) (fun _ _ _ h => h) (Or.inl ⟨by rfl, ?_⟩) ?_ ?_
        rotate_left
        ·intro w'
         go_simp
         with_reducible rfl
        rotate_left
        ·simp only [Act.put, List.setIfInBounds_toArray, List.set_cons_zero, List.set_cons_succ, i64_w, i32_w]
         rfl
        refine take_ (i := 2) (N := some 26) (v := ?_) (a' := ?_) #[true, true, true, true, true, false, true, true, true, false, false, false, false, false] rfl rfl (take_ofW HT_.out HW_.out (by kernel_rfl)) (fun _ _ _ h => h) (Or.inl ⟨by rfl, ?_⟩) hHeld ?_ ?_
        rotate_left
        ·rintro w' ⟨s0, s1, s2⟩
         go_simp
         with_reducible rfl
        rotate_left
        ·simp only [Act.put, List.setIfInBounds_toArray, List.set_cons_zero, List.set_cons_succ, i64_w, i32_w]
         rfl
        refine take_ (i := 5) (N := some 29) (v := ?_) (a' := ?_) #[true, true, true, true, true, true, true, true, true, false, false, false, false, false] rfl rfl (take_ofW HT_.out HW_.out (by kernel_rfl)) (fun _ _ _ h => h) (Or.inl ⟨by rfl, ?_⟩) hHeld ?_ ?_
        rotate_left
        ·rintro w' ⟨s0, s1, s2⟩
         go_simp
         with_reducible rfl
        rotate_left
        ·simp only [Act.put, List.setIfInBounds_toArray, List.set_cons_zero, List.set_cons_succ, i64_w, i32_w]
         rfl
        refine take_ (i := 9) (N := some 33) (v := ?_) (a' := ?_) #[true, true, true, true, true, true, true, true, true, true, false, false, false, false] rfl rfl (take_ofW HT_.out HW_.out (by kernel_rfl)) (fun _ _ _ h => h) (Or.inl ⟨by rfl, ?_⟩) hHeld ?_ ?_
        rotate_left
        ·rintro w' ⟨s0, s1, s2⟩
         go_simp
         with_reducible rfl
        rotate_left
        ·simp only [Act.put, List.setIfInBounds_toArray, List.set_cons_zero, List.set_cons_succ, i64_w, i32_w]
         rfl
        refine join_ (σ := Nat) 1 #[true, true, true, true, true, true, true, true, true, true, true, true, true, false] (fun s_ => [(34, .int .i64 t358), (8, .pointer (some ⟨s_, 0, none⟩)), (35, .agg #[.string (rdOf ByteArray.empty t348 0), .string (rdOf ByteArray.empty t348 1), .int .i64 t353, .int .i64 t358])]) (fun s_ w' => (w'.cell? ad352 = some (.string (rdOf ByteArray.empty t348 0)) ∧ w'.cell? ⟨ad352.block, ad352.off + 1, none⟩ = some (.string (rdOf ByteArray.empty t348 1)) ∧ w'.cell? ⟨ad352.block, ad352.off + 3, none⟩ = some (.string (rdOf ByteArray.empty t348 3))) ∧ (Kd.R Kd.string 9 w' w.heap.size (fun _ => True) (.slice (some ad352) t348.length co35) t348) ∧ (w'.heap[gb347]? = some (.cells #[.string (⟨#[]⟩ : ByteArray), .string (⟨#[]⟩ : ByteArray), .int .i64 0, .int .i64 0] 35 (0, 0))) ∧ (w'.heap[s_]? = some (.cells #[.string (⟨#[]⟩ : ByteArray), .string (⟨#[]⟩ : ByteArray), .int .i64 0, .int .i64 0] 35 (0, 0))) ∧ (w.heap.size ≤ s_) ∧ (w.heap.size ≤ s_) ∧ (gb347 ≠ s_) ∧ (s_ ≠ gb347) ∧ (Below w.heap.size w w')) ?_ ?_
        rotate_left
        ·intro hCont
         refine two_ (i := 10) (j := 12) (Ni := some 34) (Nj := some 8) #[true, true, true, true, true, true, true, true, true, true, true, false, false, false] #[true, true, true, true, true, true, true, true, true, true, false, false, true, false] rfl rfl rfl rfl (two_of HT_.out (by kernel_rfl)) (by decide) (by decide) (fun K hK => ?_) (fun K hK => ?_)
         ·skip
          refine goes_ Tryz.func35 (by kernel_rfl) rfl #[.string (rdOf ByteArray.empty t348 3)] (by rfl) rfl rfl chM ?_
          with_reducible refine (impl_atoi.calls (rdOf ByteArray.empty t348 3) t358 _ ?side_lay A9.out).mono ?_
          (case side_lay => exact LayB.up HT.out chG)
          rintro e w38 ⟨rfl, hb⟩
          have HS0_ := (hb.cell (World.block_lt_of_cell? _ _ (hHeld.1))).trans (hHeld.1)
          have HS1_ := (hb.cell (World.block_lt_of_cell? _ _ (hHeld.2.1))).trans (hHeld.2.1)
          have HS2_ := (hb.cell (World.block_lt_of_cell? _ _ (hHeld.2.2))).trans (hHeld.2.2)
          refine ⟨_, rfl, ?_⟩
          have n0_ := Aside0.mk (Kd.R_below (chR HO351.out) hb)
          have n1_ := Aside0.mk (blk_below (g := gb347) (o := .cells #[.string (⟨#[]⟩ : ByteArray), .string (⟨#[]⟩ : ByteArray), .int .i64 0, .int .i64 0] 35 (0, 0)) (blx BK347.out) hb)
          have n2_ := Aside0.mk (below_step chG hb)
          clear HO351
          clear BK347
          clear HB
          have HO351 := n0_
          have BK347 := n1_
          have HB := n2_
          clear n0_ n1_ n2_
          (try clear hb)
          (try clear hb2)
          (try clear hk)
          (try clear hi)
          refine hK.out _ _ ⟨HS0_, HS1_, HS2_⟩ (fun hHeld => ?_)
          clear hK K
          refine norm_ (a' := ?_) ?_ ?_
          rotate_left
          ·show Act.put _ (some 34) _ = _
           simp only [Act.put, List.setIfInBounds_toArray, List.set_cons_zero, List.set_cons_succ, i64_w, i32_w]
           rfl
          refine pure_ (i := 11) (N := some 35) (v := ?_) (a' := ?_) #[true, true, true, true, true, true, true, true, true, true, true, true, false, false] rfl rfl (any_of HT_.out (by kernel_rfl)) (fun _ _ _ h => h) (Or.inl ⟨by rfl, ?_⟩) ?_ ?_
          rotate_left
          ·intro w'
           go_simp
           with_reducible rfl
          rotate_left
          ·simp only [Act.put, List.setIfInBounds_toArray, List.set_cons_zero, List.set_cons_succ, i64_w, i32_w]
           rfl
          refine one_ (i := 12) (N := some 8) #[true, true, true, true, true, true, true, true, true, true, true, true, true, false] rfl rfl (one_of HT_.out (by kernel_rfl)) (by decide) (fun K hK => ?_)
          refine box_step ?hg (N := 8) ?hd (cs := #[.string (⟨#[]⟩ : ByteArray), .string (⟨#[]⟩ : ByteArray), .int .i64 0, .int .i64 0]) (t := 35) ?hr ?_; (case hd => rfl); (case hg => rfl); (case hr => first | (go_simp; done) | (go_simp; rfl))
          intro gb359 hg w39 hbox hb
          have HS0_ := (hb.cell (World.block_lt_of_cell? _ _ (hHeld.1))).trans (hHeld.1)
          have HS1_ := (hb.cell (World.block_lt_of_cell? _ _ (hHeld.2.1))).trans (hHeld.2.1)
          have HS2_ := (hb.cell (World.block_lt_of_cell? _ _ (hHeld.2.2))).trans (hHeld.2.2)
          have n0_ := Aside0.mk (Kd.R_below (chR HO351.out) hb)
          have n1_ := Aside0.mk (blk_below (g := gb347) (o := .cells #[.string (⟨#[]⟩ : ByteArray), .string (⟨#[]⟩ : ByteArray), .int .i64 0, .int .i64 0] 35 (0, 0)) (blx BK347.out) hb)
          have n2_ := Aside0.mk (below_step chG hb)
          have n3_ := Aside0.mk (hbox)
          have n4_ := Aside0.mk ((by rw [hg]; exact (below_size chG) : w.heap.size ≤ gb359))
          have n5_ := Aside0.mk ((by rw [hg]; exact (below_size chG) : w.heap.size ≤ gb359))
          have n6_ := Aside0.mk ((by rw [hg]; exact Nat.ne_of_lt (blk_lt (g := gb347) (o := .cells #[.string (⟨#[]⟩ : ByteArray), .string (⟨#[]⟩ : ByteArray), .int .i64 0, .int .i64 0] 35 (0, 0)) (blx BK347.out)) : gb347 ≠ gb359))
          have n7_ := Aside0.mk ((by rw [hg]; exact Nat.ne_of_gt (blk_lt (g := gb347) (o := .cells #[.string (⟨#[]⟩ : ByteArray), .string (⟨#[]⟩ : ByteArray), .int .i64 0, .int .i64 0] 35 (0, 0)) (blx BK347.out)) : gb359 ≠ gb347))
          clear HO351
          clear BK347
          clear HB
          have HO351 := n0_
          have BK347 := n1_
          have HB := n2_
          have BK359 := n3_
          have GW359 := n4_
          have GE359 := n5_
          have NB347_359 := n6_
          have NB359_347 := n7_
          clear n0_ n1_ n2_ n3_ n4_ n5_ n6_ n7_
          clear hb hbox hg
          refine hK.out _ _ ⟨HS0_, HS1_, HS2_⟩ (fun hHeld => ?_)
          clear hK K
          refine norm_ (a' := ?_) ?_ ?_
          rotate_left
          ·show Act.put _ (some 8) _ = _
           simp only [Act.put, List.setIfInBounds_toArray, List.set_cons_zero, List.set_cons_succ, i64_w, i32_w]
           rfl
          exact norm_ (by simp only [putAll, Act.put, List.setIfInBounds_toArray, List.set_cons_zero, List.set_cons_succ]) (hCont (gb359) _ ⟨hHeld, (chR HO351.out), (blx BK347.out), (blx BK359.out), GW359.out, GE359.out, NB347_359.out, NB359_347.out, chG⟩)
         ·skip
          refine box_step ?hg (N := 8) ?hd (cs := #[.string (⟨#[]⟩ : ByteArray), .string (⟨#[]⟩ : ByteArray), .int .i64 0, .int .i64 0]) (t := 35) ?hr ?_; (case hd => rfl); (case hg => rfl); (case hr => first | (go_simp; done) | (go_simp; rfl))
          intro gb359 hg w38 hbox hb
          have HS0_ := (hb.cell (World.block_lt_of_cell? _ _ (hHeld.1))).trans (hHeld.1)
          have HS1_ := (hb.cell (World.block_lt_of_cell? _ _ (hHeld.2.1))).trans (hHeld.2.1)
          have HS2_ := (hb.cell (World.block_lt_of_cell? _ _ (hHeld.2.2))).trans (hHeld.2.2)
          have n0_ := Aside0.mk (Kd.R_below (chR HO351.out) hb)
          have n1_ := Aside0.mk (blk_below (g := gb347) (o := .cells #[.string (⟨#[]⟩ : ByteArray), .string (⟨#[]⟩ : ByteArray), .int .i64 0, .int .i64 0] 35 (0, 0)) (blx BK347.out) hb)
          have n2_ := Aside0.mk (below_step chG hb)
          have n3_ := Aside0.mk (hbox)
          have n4_ := Aside0.mk ((by rw [hg]; exact (below_size chG) : w.heap.size ≤ gb359))
          have n5_ := Aside0.mk ((by rw [hg]; exact (below_size chG) : w.heap.size ≤ gb359))
          have n6_ := Aside0.mk ((by rw [hg]; exact Nat.ne_of_lt (blk_lt (g := gb347) (o := .cells #[.string (⟨#[]⟩ : ByteArray), .string (⟨#[]⟩ : ByteArray), .int .i64 0, .int .i64 0] 35 (0, 0)) (blx BK347.out)) : gb347 ≠ gb359))
          have n7_ := Aside0.mk ((by rw [hg]; exact Nat.ne_of_gt (blk_lt (g := gb347) (o := .cells #[.string (⟨#[]⟩ : ByteArray), .string (⟨#[]⟩ : ByteArray), .int .i64 0, .int .i64 0] 35 (0, 0)) (blx BK347.out)) : gb359 ≠ gb347))
          clear HO351
          clear BK347
          clear HB
          have HO351 := n0_
          have BK347 := n1_
          have HB := n2_
          have BK359 := n3_
          have GW359 := n4_
          have GE359 := n5_
          have NB347_359 := n6_
          have NB359_347 := n7_
          clear n0_ n1_ n2_ n3_ n4_ n5_ n6_ n7_
          clear hb hbox hg
          refine hK.out _ _ ⟨HS0_, HS1_, HS2_⟩ (fun hHeld => ?_)
          clear hK K
          refine norm_ (a' := ?_) ?_ ?_
          rotate_left
          ·show Act.put _ (some 8) _ = _
           simp only [Act.put, List.setIfInBounds_toArray, List.set_cons_zero, List.set_cons_succ, i64_w, i32_w]
           rfl
          refine one_ (i := 10) (N := some 34) #[true, true, true, true, true, true, true, true, true, true, true, false, true, false] rfl rfl (one_of HT_.out (by kernel_rfl)) (by decide) (fun K hK => ?_)
          refine goes_ Tryz.func35 (by kernel_rfl) rfl #[.string (rdOf ByteArray.empty t348 3)] (by rfl) rfl rfl chM ?_
          with_reducible refine (impl_atoi.calls (rdOf ByteArray.empty t348 3) t358 _ ?side_lay A9.out).mono ?_
          (case side_lay => exact LayB.up HT.out chG)
          rintro e w39 ⟨rfl, hb⟩
          have HS0_ := (hb.cell (World.block_lt_of_cell? _ _ (hHeld.1))).trans (hHeld.1)
          have HS1_ := (hb.cell (World.block_lt_of_cell? _ _ (hHeld.2.1))).trans (hHeld.2.1)
          have HS2_ := (hb.cell (World.block_lt_of_cell? _ _ (hHeld.2.2))).trans (hHeld.2.2)
          refine ⟨_, rfl, ?_⟩
          have n0_ := Aside0.mk (Kd.R_below (chR HO351.out) hb)
          have n1_ := Aside0.mk (blk_below (g := gb347) (o := .cells #[.string (⟨#[]⟩ : ByteArray), .string (⟨#[]⟩ : ByteArray), .int .i64 0, .int .i64 0] 35 (0, 0)) (blx BK347.out) hb)
          have n2_ := Aside0.mk (blk_below (g := gb359) (o := .cells #[.string (⟨#[]⟩ : ByteArray), .string (⟨#[]⟩ : ByteArray), .int .i64 0, .int .i64 0] 35 (0, 0)) (blx BK359.out) hb)
          have n3_ := Aside0.mk (below_step chG hb)
          clear HO351
          clear BK347
          clear BK359
          clear HB
          have HO351 := n0_
          have BK347 := n1_
          have BK359 := n2_
          have HB := n3_
          clear n0_ n1_ n2_ n3_
          (try clear hb)
          (try clear hb2)
          (try clear hk)
          (try clear hi)
          refine hK.out _ _ ⟨HS0_, HS1_, HS2_⟩ (fun hHeld => ?_)
          clear hK K
          refine norm_ (a' := ?_) ?_ ?_
          rotate_left
          ·show Act.put _ (some 34) _ = _
           simp only [Act.put, List.setIfInBounds_toArray, List.set_cons_zero, List.set_cons_succ, i64_w, i32_w]
           rfl
          refine pure_ (i := 11) (N := some 35) (v := ?_) (a' := ?_) #[true, true, true, true, true, true, true, true, true, true, true, true, true, false] rfl rfl (any_of HT_.out (by kernel_rfl)) (fun _ _ _ h => h) (Or.inl ⟨by rfl, ?_⟩) ?_ ?_
          rotate_left
          ·intro w'
           go_simp
           with_reducible rfl
          rotate_left
          ·simp only [Act.put, List.setIfInBounds_toArray, List.set_cons_zero, List.set_cons_succ, i64_w, i32_w]
           rfl
          exact norm_ (by simp only [putAll, Act.put, List.setIfInBounds_toArray, List.set_cons_zero, List.set_cons_succ]) (hCont (gb359) _ ⟨hHeld, (chR HO351.out), (blx BK347.out), (blx BK359.out), GW359.out, GE359.out, NB347_359.out, NB359_347.out, chG⟩)
        rintro gb359 w40 ⟨hS_, h0_, h1_, h2_, h3_, h4_, h5_, h6_, h7_⟩
        have n0_ : Aside0 (Kd.R Kd.string 9 w40 w.heap.size (fun _ => True) (.slice (some ad352) t348.length co35) t348) := ⟨h0_⟩
        have n1_ : Aside0 (w40.heap[gb347]? = some (.cells #[.string (⟨#[]⟩ : ByteArray), .string (⟨#[]⟩ : ByteArray), .int .i64 0, .int .i64 0] 35 (0, 0))) := ⟨h1_⟩
        have n2_ : Aside0 (w40.heap[gb359]? = some (.cells #[.string (⟨#[]⟩ : ByteArray), .string (⟨#[]⟩ : ByteArray), .int .i64 0, .int .i64 0] 35 (0, 0))) := ⟨h2_⟩
        have n3_ : Aside0 (w.heap.size ≤ gb359) := ⟨h3_⟩
        have n4_ : Aside0 (w.heap.size ≤ gb359) := ⟨h4_⟩
        have n5_ : Aside0 (gb347 ≠ gb359) := ⟨h5_⟩
        have n6_ : Aside0 (gb359 ≠ gb347) := ⟨h6_⟩
        have n7_ : Aside0 (Below w.heap.size w w40) := ⟨h7_⟩
        clear HO351
        clear BK347
        clear HB
        clear h0_ h1_ h2_ h3_ h4_ h5_ h6_ h7_
        have HO351 := n0_
        have BK347 := n1_
        have BK359 := n2_
        have GW359 := n3_
        have GE359 := n4_
        have NB347_359 := n5_
        have NB359_347 := n6_
        have HB := n7_
        clear n0_ n1_ n2_ n3_ n4_ n5_ n6_ n7_
        have hHeld : w40.cell? ad352 = some (.string (rdOf ByteArray.empty t348 0)) ∧ w40.cell? ⟨ad352.block, ad352.off + 1, none⟩ = some (.string (rdOf ByteArray.empty t348 1)) ∧ w40.cell? ⟨ad352.block, ad352.off + 3, none⟩ = some (.string (rdOf ByteArray.empty t348 3)) := hS_
        refine norm_ (a' := ?_) ?_ ?_
        rotate_left
        ·simp only [putAll, Act.put, List.setIfInBounds_toArray, List.set_cons_zero, List.set_cons_succ]
         rfl
        refine one_ (i := 13) (N := none) #[true, true, true, true, true, true, true, true, true, true, true, true, true, true] rfl rfl (one_of HT_.out (by kernel_rfl)) (by decide) (fun K hK => ?_)
        have hs41 : w40.cell? ⟨gb359, 0, none⟩ = some (.string (⟨#[]⟩ : ByteArray)) := (blk_cell BK359.out 0).trans rfl
        have hfs41 := blk_frozen BK359.out 0
        have hns41_0 := NB347_359.out
        have hms41_0 := NB359_347.out
        have hs42 : w40.cell? ⟨gb359, 1, none⟩ = some (.string (⟨#[]⟩ : ByteArray)) := (blk_cell BK359.out 1).trans rfl
        have hfs42 := blk_frozen BK359.out 1
        have hns42_0 := NB347_359.out
        have hms42_0 := NB359_347.out
        have hs43 : w40.cell? ⟨gb359, 2, none⟩ = some (.int .i64 0) := (blk_cell BK359.out 2).trans rfl
        have hfs43 := blk_frozen BK359.out 2
        have hns43_0 := NB347_359.out
        have hms43_0 := NB359_347.out
        have hs44 : w40.cell? ⟨gb359, 3, none⟩ = some (.int .i64 0) := (blk_cell BK359.out 3).trans rfl
        have hfs44 := blk_frozen BK359.out 3
        have hns44_0 := NB347_359.out
        have hms44_0 := NB359_347.out
        refine skip_ (w1 := ?_) (by rfl) rfl ?_ ?_
        rotate_left
        ·go_simp
         rfl
        refine hK.out _ _ ⟨((cell_far (p := ⟨gb359, _, none⟩) (by first | exact Kd.own_blk (Kd.R_ne HO351.out BK359.out (by decide)) | (rw [add_block]; exact Kd.own_blk (Kd.R_ne HO351.out BK359.out (by decide))) | (show (Addr.add _ _).block ≠ _; rw [add_block]; exact Kd.own_blk (Kd.R_ne HO351.out BK359.out (by decide))) | (dsimp only; exact Kd.own_blk (Kd.R_ne HO351.out BK359.out (by decide)))) _).trans (((cell_far (p := ⟨gb359, _, none⟩) (by first | exact Kd.own_blk (Kd.R_ne HO351.out BK359.out (by decide)) | (rw [add_block]; exact Kd.own_blk (Kd.R_ne HO351.out BK359.out (by decide))) | (show (Addr.add _ _).block ≠ _; rw [add_block]; exact Kd.own_blk (Kd.R_ne HO351.out BK359.out (by decide))) | (dsimp only; exact Kd.own_blk (Kd.R_ne HO351.out BK359.out (by decide)))) _).trans (((cell_far (p := ⟨gb359, _, none⟩) (by first | exact Kd.own_blk (Kd.R_ne HO351.out BK359.out (by decide)) | (rw [add_block]; exact Kd.own_blk (Kd.R_ne HO351.out BK359.out (by decide))) | (show (Addr.add _ _).block ≠ _; rw [add_block]; exact Kd.own_blk (Kd.R_ne HO351.out BK359.out (by decide))) | (dsimp only; exact Kd.own_blk (Kd.R_ne HO351.out BK359.out (by decide)))) _).trans (((cell_far (p := ⟨gb359, _, none⟩) (by first | exact Kd.own_blk (Kd.R_ne HO351.out BK359.out (by decide)) | (rw [add_block]; exact Kd.own_blk (Kd.R_ne HO351.out BK359.out (by decide))) | (show (Addr.add _ _).block ≠ _; rw [add_block]; exact Kd.own_blk (Kd.R_ne HO351.out BK359.out (by decide))) | (dsimp only; exact Kd.own_blk (Kd.R_ne HO351.out BK359.out (by decide)))) _).trans (hHeld.1)))))))), ((cell_far (p := ⟨gb359, _, none⟩) (by first | exact Kd.own_blk (Kd.R_ne HO351.out BK359.out (by decide)) | (rw [add_block]; exact Kd.own_blk (Kd.R_ne HO351.out BK359.out (by decide))) | (show (Addr.add _ _).block ≠ _; rw [add_block]; exact Kd.own_blk (Kd.R_ne HO351.out BK359.out (by decide))) | (dsimp only; exact Kd.own_blk (Kd.R_ne HO351.out BK359.out (by decide)))) _).trans (((cell_far (p := ⟨gb359, _, none⟩) (by first | exact Kd.own_blk (Kd.R_ne HO351.out BK359.out (by decide)) | (rw [add_block]; exact Kd.own_blk (Kd.R_ne HO351.out BK359.out (by decide))) | (show (Addr.add _ _).block ≠ _; rw [add_block]; exact Kd.own_blk (Kd.R_ne HO351.out BK359.out (by decide))) | (dsimp only; exact Kd.own_blk (Kd.R_ne HO351.out BK359.out (by decide)))) _).trans (((cell_far (p := ⟨gb359, _, none⟩) (by first | exact Kd.own_blk (Kd.R_ne HO351.out BK359.out (by decide)) | (rw [add_block]; exact Kd.own_blk (Kd.R_ne HO351.out BK359.out (by decide))) | (show (Addr.add _ _).block ≠ _; rw [add_block]; exact Kd.own_blk (Kd.R_ne HO351.out BK359.out (by decide))) | (dsimp only; exact Kd.own_blk (Kd.R_ne HO351.out BK359.out (by decide)))) _).trans (((cell_far (p := ⟨gb359, _, none⟩) (by first | exact Kd.own_blk (Kd.R_ne HO351.out BK359.out (by decide)) | (rw [add_block]; exact Kd.own_blk (Kd.R_ne HO351.out BK359.out (by decide))) | (show (Addr.add _ _).block ≠ _; rw [add_block]; exact Kd.own_blk (Kd.R_ne HO351.out BK359.out (by decide))) | (dsimp only; exact Kd.own_blk (Kd.R_ne HO351.out BK359.out (by decide)))) _).trans (hHeld.2.1)))))))), ((cell_far (p := ⟨gb359, _, none⟩) (by first | exact Kd.own_blk (Kd.R_ne HO351.out BK359.out (by decide)) | (rw [add_block]; exact Kd.own_blk (Kd.R_ne HO351.out BK359.out (by decide))) | (show (Addr.add _ _).block ≠ _; rw [add_block]; exact Kd.own_blk (Kd.R_ne HO351.out BK359.out (by decide))) | (dsimp only; exact Kd.own_blk (Kd.R_ne HO351.out BK359.out (by decide)))) _).trans (((cell_far (p := ⟨gb359, _, none⟩) (by first | exact Kd.own_blk (Kd.R_ne HO351.out BK359.out (by decide)) | (rw [add_block]; exact Kd.own_blk (Kd.R_ne HO351.out BK359.out (by decide))) | (show (Addr.add _ _).block ≠ _; rw [add_block]; exact Kd.own_blk (Kd.R_ne HO351.out BK359.out (by decide))) | (dsimp only; exact Kd.own_blk (Kd.R_ne HO351.out BK359.out (by decide)))) _).trans (((cell_far (p := ⟨gb359, _, none⟩) (by first | exact Kd.own_blk (Kd.R_ne HO351.out BK359.out (by decide)) | (rw [add_block]; exact Kd.own_blk (Kd.R_ne HO351.out BK359.out (by decide))) | (show (Addr.add _ _).block ≠ _; rw [add_block]; exact Kd.own_blk (Kd.R_ne HO351.out BK359.out (by decide))) | (dsimp only; exact Kd.own_blk (Kd.R_ne HO351.out BK359.out (by decide)))) _).trans (((cell_far (p := ⟨gb359, _, none⟩) (by first | exact Kd.own_blk (Kd.R_ne HO351.out BK359.out (by decide)) | (rw [add_block]; exact Kd.own_blk (Kd.R_ne HO351.out BK359.out (by decide))) | (show (Addr.add _ _).block ≠ _; rw [add_block]; exact Kd.own_blk (Kd.R_ne HO351.out BK359.out (by decide))) | (dsimp only; exact Kd.own_blk (Kd.R_ne HO351.out BK359.out (by decide)))) _).trans (hHeld.2.2))))))))⟩ (fun hHeld => ?_)
        clear hK K
        refine done_ (done_of HT_.out (by kernel_rfl)) ?_
        have hnb45 := NB359_347.out
        have hnc45 := NB347_359.out
        obtain ⟨hcz46_0, hcz46_1, hcz46_2, hcz46_3, hfz46_0, hfz46_1, hfz46_2, hfz46_3⟩ := blk4 BK359.out
        try go_wp2_with (first | ((with_reducible refine gate_callee (f := 20) rfl ?_); refine goesL_ (some 37) rfl rfl Tryz.func20 (by kernel_rfl) rfl #[.agg #[.string (rdOf ByteArray.empty t348 0), .string (rdOf ByteArray.empty t348 1), .int .i64 t353, .int .i64 t358]] rfl chM ?_; (with_reducible refine (impl_SampleOk.calls k (rdOf ByteArray.empty t348 0) (rdOf ByteArray.empty t348 1) t353 t358 true _ A10.out).mono ?_); rintro e w47 ⟨rfl, hb⟩; refine ⟨_, rfl, ?_⟩; have n0_ := Aside0.mk (Kd.R_below (by (with_reducible repeat (first | apply Kd.R_alloc | apply Kd.R_drewN | apply Kd.R_drew)); exact (Kd.R_mono (Kd.R_far (p := ⟨gb359, 3, none⟩) (Kd.R_far (p := ⟨gb359, 2, none⟩) (Kd.R_far (p := ⟨gb359, 1, none⟩) (Kd.R_far (p := ⟨gb359, 0, none⟩) (Kd.R_types HO351.out BK359.out (by decide)) (fun _ hk => hk.2) (.string (rdOf ByteArray.empty t348 0))) (fun _ hk => hk.2) (.string (rdOf ByteArray.empty t348 1))) (fun _ hk => hk.2) (.int .i64 t353)) (fun _ hk => hk.2) (.int .i64 t358)) (fun _ h_ => h_.1))) hb); have n1_ := Aside0.mk (blk_below (g := gb347) (o := .cells #[.string (⟨#[]⟩ : ByteArray), .string (⟨#[]⟩ : ByteArray), .int .i64 0, .int .i64 0] 35 (0, 0)) (blx BK347.out) hb); have n2_ := Aside0.mk (blk_below (g := gb359) (o := .cells #[.string (rdOf ByteArray.empty t348 0), .string (rdOf ByteArray.empty t348 1), .int .i64 t353, .int .i64 t358] 35 (0, 0)) (by (with_reducible repeat (first | refine blk_drewN ?_ _ | refine blk_drew ?_ | refine blk_alloc ?_ _)); refine blk_put (cs := #[.string (rdOf ByteArray.empty t348 0), .string (rdOf ByteArray.empty t348 1), .int .i64 t353, .int .i64 0]) ?_ 3 _ rfl; (with_reducible repeat (first | refine blk_drewN ?_ _ | refine blk_drew ?_ | refine blk_alloc ?_ _)); refine blk_put (cs := #[.string (rdOf ByteArray.empty t348 0), .string (rdOf ByteArray.empty t348 1), .int .i64 0, .int .i64 0]) ?_ 2 _ rfl; (with_reducible repeat (first | refine blk_drewN ?_ _ | refine blk_drew ?_ | refine blk_alloc ?_ _)); refine blk_put (cs := #[.string (rdOf ByteArray.empty t348 0), .string (⟨#[]⟩ : ByteArray), .int .i64 0, .int .i64 0]) ?_ 1 _ rfl; (with_reducible repeat (first | refine blk_drewN ?_ _ | refine blk_drew ?_ | refine blk_alloc ?_ _)); refine blk_put (cs := #[.string (⟨#[]⟩ : ByteArray), .string (⟨#[]⟩ : ByteArray), .int .i64 0, .int .i64 0]) ?_ 0 _ rfl; (with_reducible repeat (first | refine blk_drewN ?_ _ | refine blk_drew ?_ | refine blk_alloc ?_ _)); exact BK359.out) hb); have n3_ := Aside0.mk (below_step chG hb); clear HO351; clear BK347; clear BK359; clear HB; have HO351 := n0_; have BK347 := n1_; have BK359 := n2_; have HB := n3_; clear n0_ n1_ n2_ n3_; (try clear hb); (try clear hb2); (try clear hk); (try clear hi); obtain ⟨hcz48_0, hcz48_1, hcz48_2, hcz48_3, hfz48_0, hfz48_1, hfz48_2, hfz48_3⟩ := blk4 BK359.out) | (go_at_call 15; (with_reducible refine (impl_SampleLine.calls k (rdOf ByteArray.empty t348 0) (rdOf ByteArray.empty t348 1) t353 t358 t361 _ ?side_lay A12.out).mono ?_); (case side_lay => exact LayB.up HT.out chG); rintro e w49 ⟨rfl, hb⟩; have n0_ := Aside0.mk (Kd.R_below (chR HO351.out) hb); have n1_ := Aside0.mk (blk_below (g := gb347) (o := .cells #[.string (⟨#[]⟩ : ByteArray), .string (⟨#[]⟩ : ByteArray), .int .i64 0, .int .i64 0] 35 (0, 0)) (blx BK347.out) hb); have n2_ := Aside0.mk (blk_below (g := gb359) (o := .cells #[.string (rdOf ByteArray.empty t348 0), .string (rdOf ByteArray.empty t348 1), .int .i64 t353, .int .i64 t358] 35 (0, 0)) (blx BK359.out) hb); have n3_ := Aside0.mk (below_step chG hb); clear HO351; clear BK347; clear BK359; clear HB; have HO351 := n0_; have BK347 := n1_; have BK359 := n2_; have HB := n3_; clear n0_ n1_ n2_ n3_; (try clear hb); (try clear hb2); (try clear hk); (try clear hi); obtain ⟨hcz50_0, hcz50_1, hcz50_2, hcz50_3, hfz50_0, hfz50_1, hfz50_2, hfz50_3⟩ := blk4 BK347.out))
        refine bodyPost_ret (results_ct rfl _ _ gb347 35 #[.string (⟨#[]⟩ : ByteArray), .string (⟨#[]⟩ : ByteArray), .int .i64 0, .int .i64 0] (0, 0) _ rfl (by (with_reducible repeat (first | refine blk_drewN ?_ _ | refine blk_drew ?_ | refine blk_alloc ?_ _)); refine blk_put (cs := #[.string (⟨#[]⟩ : ByteArray), .string (⟨#[]⟩ : ByteArray), .int .i64 0, .int .i64 0]) ?_ 3 _ rfl; (with_reducible repeat (first | refine blk_drewN ?_ _ | refine blk_drew ?_ | refine blk_alloc ?_ _)); refine blk_put (cs := #[.string (⟨#[]⟩ : ByteArray), .string (⟨#[]⟩ : ByteArray), .int .i64 0, .int .i64 0]) ?_ 2 _ rfl; (with_reducible repeat (first | refine blk_drewN ?_ _ | refine blk_drew ?_ | refine blk_alloc ?_ _)); refine blk_put (cs := #[.string (⟨#[]⟩ : ByteArray), .string (⟨#[]⟩ : ByteArray), .int .i64 0, .int .i64 0]) ?_ 1 _ rfl; (with_reducible repeat (first | refine blk_drewN ?_ _ | refine blk_drew ?_ | refine blk_alloc ?_ _)); refine blk_put (cs := #[.string (⟨#[]⟩ : ByteArray), .string (⟨#[]⟩ : ByteArray), .int .i64 0, .int .i64 0]) ?_ 0 _ rfl; (with_reducible repeat (first | refine blk_drewN ?_ _ | refine blk_drew ?_ | refine blk_alloc ?_ _)); exact BK347.out) Tryz.underlying35 rfl (by kernel_rfl)) rfl ?_
        exact ⟨chE, chG⟩
      ·replace c11 := Bool.eq_false_iff.mpr c11
       subst c11
       have H1 : (some ((⟨#[]⟩ : ByteArray), (⟨#[]⟩ : ByteArray), 0, 0, false)) = some (r1, r2, r3, r4, r5) := by rw [if_neg (show ¬ (false = true) by decide)] at H; exact H
       clear H
       have H := H1
       clear H1
       simp only [Option.some.injEq, Prod.mk.injEq] at H
       obtain ⟨rfl, rfl, rfl, rfl, rfl⟩ := H
       go_enter Tryz.func14, Tryz.ntmps14
       try go_wp2_with (first | ((with_reducible refine gate_dst (N := 2) rfl ?_); refine box_event ?hg (N := 2) ?hd (cs := #[.string (⟨#[]⟩ : ByteArray), .string (⟨#[]⟩ : ByteArray), .int .i64 0, .int .i64 0]) (t := 35) ?hr ?_; (case hd => rfl); (case hg => rfl); (case hr => first | (go_simp; done) | (go_simp; rfl)); intro gb347 hg w51 hbox hb; have n0_ := Aside0.mk (below_step chB hb); have n1_ := Aside0.mk (hbox); have n2_ := Aside0.mk ((by rw [hg]; exact (below_size chB) : w.heap.size ≤ gb347)); have n3_ := Aside0.mk ((by rw [hg]; exact (below_size chB) : w.heap.size ≤ gb347)); clear HB; have HB := n0_; have BK347 := n1_; have GW347 := n2_; have GE347 := n3_; clear n0_ n1_ n2_ n3_; clear hb hbox hg) | ((with_reducible refine gate_callee (f := 33) rfl ?_); refine goesL_ (some 11) rfl rfl Tryz.func33 (by kernel_rfl) rfl #[.string a0, .int .i64 4] rfl chM ?_; (with_reducible refine (impl_split.calls a0 4 t348 true _ ?side_lay A2.out).mono ?_); (case side_lay => exact LayB.up HT.out chG); rintro e w52 ⟨v350, rfl, ho0, hb⟩; refine ⟨_, rfl, ?_⟩; have n0_ := Aside0.mk (Kd.R_lower ho0 (below_size chG)); have n1_ := Aside0.mk (blk_below (g := gb347) (o := .cells #[.string (⟨#[]⟩ : ByteArray), .string (⟨#[]⟩ : ByteArray), .int .i64 0, .int .i64 0] 35 (0, 0)) (blx BK347.out) hb); have n2_ := Aside0.mk (below_step chG hb); clear BK347; clear HB; have HO351 := n0_; have BK347 := n1_; have HB := n2_; clear n0_ n1_ n2_; (try clear hb); (try clear hb2); (try clear hk); (try clear hi); (try clear ho0); obtain ⟨Ao53, co53, eo53⟩ := Kd.R_slice HO351.out; subst eo53; have p352 : 0 ≤ (2 : Int) := (by omega); have q352 : 2 < (t348.length : Int) := of_decide_eq_true chA; obtain ⟨ad352, e352, hx352_0⟩ := Kd.at_string (Kd.R_reads' HO351.out).2.2 2 p352 q352; cases e352; (try simp only [show (2 : Int).toNat = 2 from rfl, Nat.reduceMul, Nat.reduceEqDiff, Go.Addr.add, ↓reduceIte] at hx352_0); have qi352 : (2 < t348.length) = True := eq_true (by omega); (try rw [show ((2 : Int)).toNat = 2 from rfl] at hx352_0); replace p352 := eq_true p352; replace q352 := eq_true q352) | ((with_reducible refine gate_callee (f := 34) rfl ?_); refine goesL_ (some 21) rfl rfl Tryz.func34 (by kernel_rfl) rfl #[.string (rdOf ByteArray.empty t348 2)] rfl chM ?_; (with_reducible refine (impl_ParseMilli.calls k (rdOf ByteArray.empty t348 2) t353 t354 _ ?side_lay A5.out).mono ?_); (case side_lay => exact LayB.up HT.out chG); rintro e w54 ⟨rfl, hb⟩; refine ⟨_, rfl, ?_⟩; have n0_ := Aside0.mk (Kd.R_below (chR HO351.out) hb); have n1_ := Aside0.mk (blk_below (g := gb347) (o := .cells #[.string (⟨#[]⟩ : ByteArray), .string (⟨#[]⟩ : ByteArray), .int .i64 0, .int .i64 0] 35 (0, 0)) (blx BK347.out) hb); have n2_ := Aside0.mk (below_step chG hb); clear HO351; clear BK347; clear HB; have HO351 := n0_; have BK347 := n1_; have HB := n2_; clear n0_ n1_ n2_; (try clear hb); (try clear hb2); (try clear hk); (try clear hi)))
       have n0_ := Aside0.mk (Kd.R_drew HO351.out)
       have n1_ := Aside0.mk (blk_drew BK347.out)
       have n2_ := Aside0.mk (below_drew1 HB.out)
       clear HO351
       clear BK347
       clear HB
       have HO351 := n0_
       have BK347 := n1_
       have HB := n2_
       clear n0_ n1_ n2_
       have p355 : 0 ≤ (0 : Int) := (by omega)
       have q355 : 0 < (t348.length : Int) := of_decide_eq_true chA
       obtain ⟨ad355, e355, hx355_0⟩ := Kd.at_string (Kd.R_reads' HO351.out).2.2 0 p355 q355
       obtain rfl : ad352 = ad355 := (by injection e355)
       have qi355 : (0 < t348.length) = True := eq_true (by omega)
       (try rw [show ((0 : Int)).toNat = 0 from rfl] at hx355_0)
       (try rw [Addr.add_zero'] at hx355_0)
       replace p355 := eq_true p355
       replace q355 := eq_true q355
       have p356 : 0 ≤ (1 : Int) := (by omega)
       have q356 : 1 < (t348.length : Int) := of_decide_eq_true chA
       obtain ⟨ad356, e356, hx356_0⟩ := Kd.at_string (Kd.R_reads' HO351.out).2.2 1 p356 q356
       obtain rfl : ad352 = ad356 := (by injection e356)
       (try simp only [show (1 : Int).toNat = 1 from rfl, Nat.reduceMul, Nat.reduceEqDiff, Go.Addr.add, ↓reduceIte] at hx356_0)
       have qi356 : (1 < t348.length) = True := eq_true (by omega)
       (try rw [show ((1 : Int)).toNat = 1 from rfl] at hx356_0)
       replace p356 := eq_true p356
       replace q356 := eq_true q356
       have p357 : 0 ≤ (3 : Int) := (by omega)
       have q357 : 3 < (t348.length : Int) := of_decide_eq_true chA
       obtain ⟨ad357, e357, hx357_0⟩ := Kd.at_string (Kd.R_reads' HO351.out).2.2 3 p357 q357
       obtain rfl : ad352 = ad357 := (by injection e357)
       (try simp only [show (3 : Int).toNat = 3 from rfl, Nat.reduceMul, Nat.reduceEqDiff, Go.Addr.add, ↓reduceIte] at hx357_0)
       have qi357 : (3 < t348.length) = True := eq_true (by omega)
       (try rw [show ((3 : Int)).toNat = 3 from rfl] at hx357_0)
       replace p357 := eq_true p357
       replace q357 := eq_true q357
       refine start_ (n := 14) (S := fun w' => w'.cell? ad352 = some (.string (rdOf ByteArray.empty t348 0)) ∧ w'.cell? ⟨ad352.block, ad352.off + 1, none⟩ = some (.string (rdOf ByteArray.empty t348 1)) ∧ w'.cell? ⟨ad352.block, ad352.off + 3, none⟩ = some (.string (rdOf ByteArray.empty t348 3))) (ds := []) #[false, false, false, false, false, false, false, false, false, false, false, false, false, false] (by kernel_rfl) rfl rfl ⟨hx355_0, hx356_0, hx357_0⟩ (fun hHeld => ?_); refine with_tabW impl_ParseSample.tab5 impl_ParseSample.bits5 (fun HT_ HW_ => ?_)
       generalize w54.drew = w55 at HO351 BK347 HB hx355_0 hx356_0 hx357_0 hHeld ⊢
       refine pure_ (i := 0) (N := some 24) (v := ?_) (a' := ?_) #[true, false, false, false, false, false, false, false, false, false, false, false, false, false] rfl rfl (any_of HT_.out (by kernel_rfl)) (fun _ _ _ h => h) (Or.inl ⟨by rfl, ?_⟩) ?_ ?_
       rotate_left
       ·intro w'
        go_simp
        with_reducible rfl
       rotate_left
       ·simp only [Act.put, List.setIfInBounds_toArray, List.set_cons_zero, List.set_cons_succ, i64_w, i32_w]
        rfl
       refine pure_ (i := 1) (N := some 25) (v := ?_) (a' := ?_) #[true, true, false, false, false, false, false, false, false, false, false, false, false, false] rfl rfl (any_of HT_.out (by kernel_rfl)) (fun _ _ _ h => h) (Or.inl ⟨by rfl, ?_⟩) ?_ ?_
       rotate_left
       ·intro w'
        go_simp
        with_reducible rfl
       rotate_left
       ·simp only [Act.put, List.setIfInBounds_toArray, List.set_cons_zero, List.set_cons_succ, i64_w, i32_w]
        rfl
       refine pure_ (i := 3) (N := some 27) (v := ?_) (a' := ?_) #[true, true, false, true, false, false, false, false, false, false, false, false, false, false] rfl rfl (any_of HT_.out (by kernel_rfl)) (fun _ _ _ h => h) (Or.inl ⟨by rfl, ?_⟩) ?_ ?_
       rotate_left
       ·intro w'
        go_simp
        with_reducible rfl
       rotate_left
       ·simp only [Act.put, List.setIfInBounds_toArray, List.set_cons_zero, List.set_cons_succ, i64_w, i32_w]
        rfl
       refine pure_ (i := 4) (N := some 28) (v := ?_) (a' := ?_) #[true, true, false, true, true, false, false, false, false, false, false, false, false, false] rfl rfl (any_of HT_.out (by kernel_rfl)) (fun _ _ _ h => h) (Or.inl ⟨by rfl, ?_⟩) ?_ ?_
       rotate_left
       ·intro w'
        go_simp
        with_reducible rfl
       rotate_left
       ·simp only [Act.put, List.setIfInBounds_toArray, List.set_cons_zero, List.set_cons_succ, i64_w, i32_w]
        rfl
       refine pure_ (i := 6) (N := some 30) (v := ?_) (a' := ?_) #[true, true, false, true, true, false, true, false, false, false, false, false, false, false] rfl rfl (any_of HT_.out (by kernel_rfl)) (fun _ _ _ h => h) (Or.inl ⟨by rfl, ?_⟩) ?_ ?_
       rotate_left
       ·intro w'
        go_simp
        with_reducible rfl
       rotate_left
       ·simp only [Act.put, List.setIfInBounds_toArray, List.set_cons_zero, List.set_cons_succ, i64_w, i32_w]
        rfl
       refine pure_ (i := 7) (N := some 31) (v := ?_) (a' := ?_) #[true, true, false, true, true, false, true, true, false, false, false, false, false, false] rfl rfl (any_of HT_.out (by kernel_rfl)) (fun _ _ _ h => h) (Or.inl ⟨by rfl, ?_⟩) ?_ ?_
       rotate_left
       ·intro w'
        go_simp
        with_reducible rfl
       rotate_left
       ·simp only [Act.put, List.setIfInBounds_toArray, List.set_cons_zero, List.set_cons_succ, i64_w, i32_w]
        rfl
       refine pure_ (i := 8) (N := some 32) (v := ?_) (a' := ?_) #[true, true, false, true, true, false, true, true, true, false, false, false, false, false] rfl rfl (any_of HT_.out (by kernel_rfl)) (fun _ _ _ h => h) (Or.inl ⟨by rfl, ?_⟩) ?_ ?_
       rotate_left
       ·intro w'
        go_simp
        with_reducible rfl
       rotate_left
       ·simp only [Act.put, List.setIfInBounds_toArray, List.set_cons_zero, List.set_cons_succ, i64_w, i32_w]
        rfl
       refine take_ (i := 2) (N := some 26) (v := ?_) (a' := ?_) #[true, true, true, true, true, false, true, true, true, false, false, false, false, false] rfl rfl (take_ofW HT_.out HW_.out (by kernel_rfl)) (fun _ _ _ h => h) (Or.inl ⟨by rfl, ?_⟩) hHeld ?_ ?_
       rotate_left
       ·rintro w' ⟨s0, s1, s2⟩
        go_simp
        with_reducible rfl
       rotate_left
       ·simp only [Act.put, List.setIfInBounds_toArray, List.set_cons_zero, List.set_cons_succ, i64_w, i32_w]
        rfl
       refine take_ (i := 5) (N := some 29) (v := ?_) (a' := ?_) #[true, true, true, true, true, true, true, true, true, false, false, false, false, false] rfl rfl (take_ofW HT_.out HW_.out (by kernel_rfl)) (fun _ _ _ h => h) (Or.inl ⟨by rfl, ?_⟩) hHeld ?_ ?_
       rotate_left
       ·rintro w' ⟨s0, s1, s2⟩
        go_simp
        with_reducible rfl
       rotate_left
       ·simp only [Act.put, List.setIfInBounds_toArray, List.set_cons_zero, List.set_cons_succ, i64_w, i32_w]
        rfl
       refine take_ (i := 9) (N := some 33) (v := ?_) (a' := ?_) #[true, true, true, true, true, true, true, true, true, true, false, false, false, false] rfl rfl (take_ofW HT_.out HW_.out (by kernel_rfl)) (fun _ _ _ h => h) (Or.inl ⟨by rfl, ?_⟩) hHeld ?_ ?_
       rotate_left
       ·rintro w' ⟨s0, s1, s2⟩
        go_simp
        with_reducible rfl
       rotate_left
       ·simp only [Act.put, List.setIfInBounds_toArray, List.set_cons_zero, List.set_cons_succ, i64_w, i32_w]
        rfl
       refine join_ (σ := Nat) 1 #[true, true, true, true, true, true, true, true, true, true, true, true, true, false] (fun s_ => [(34, .int .i64 t358), (8, .pointer (some ⟨s_, 0, none⟩)), (35, .agg #[.string (rdOf ByteArray.empty t348 0), .string (rdOf ByteArray.empty t348 1), .int .i64 t353, .int .i64 t358])]) (fun s_ w' => (w'.cell? ad352 = some (.string (rdOf ByteArray.empty t348 0)) ∧ w'.cell? ⟨ad352.block, ad352.off + 1, none⟩ = some (.string (rdOf ByteArray.empty t348 1)) ∧ w'.cell? ⟨ad352.block, ad352.off + 3, none⟩ = some (.string (rdOf ByteArray.empty t348 3))) ∧ (Kd.R Kd.string 9 w' w.heap.size (fun _ => True) (.slice (some ad352) t348.length co53) t348) ∧ (w'.heap[gb347]? = some (.cells #[.string (⟨#[]⟩ : ByteArray), .string (⟨#[]⟩ : ByteArray), .int .i64 0, .int .i64 0] 35 (0, 0))) ∧ (w'.heap[s_]? = some (.cells #[.string (⟨#[]⟩ : ByteArray), .string (⟨#[]⟩ : ByteArray), .int .i64 0, .int .i64 0] 35 (0, 0))) ∧ (w.heap.size ≤ s_) ∧ (w.heap.size ≤ s_) ∧ (gb347 ≠ s_) ∧ (s_ ≠ gb347) ∧ (Below w.heap.size w w')) ?_ ?_
       rotate_left
       ·intro hCont
        refine two_ (i := 10) (j := 12) (Ni := some 34) (Nj := some 8) #[true, true, true, true, true, true, true, true, true, true, true, false, false, false] #[true, true, true, true, true, true, true, true, true, true, false, false, true, false] rfl rfl rfl rfl (two_of HT_.out (by kernel_rfl)) (by decide) (by decide) (fun K hK => ?_) (fun K hK => ?_)
        ·skip
         refine goes_ Tryz.func35 (by kernel_rfl) rfl #[.string (rdOf ByteArray.empty t348 3)] (by rfl) rfl rfl chM ?_
         with_reducible refine (impl_atoi.calls (rdOf ByteArray.empty t348 3) t358 _ ?side_lay A9.out).mono ?_
         (case side_lay => exact LayB.up HT.out chG)
         rintro e w56 ⟨rfl, hb⟩
         have HS0_ := (hb.cell (World.block_lt_of_cell? _ _ (hHeld.1))).trans (hHeld.1)
         have HS1_ := (hb.cell (World.block_lt_of_cell? _ _ (hHeld.2.1))).trans (hHeld.2.1)
         have HS2_ := (hb.cell (World.block_lt_of_cell? _ _ (hHeld.2.2))).trans (hHeld.2.2)
         refine ⟨_, rfl, ?_⟩
         have n0_ := Aside0.mk (Kd.R_below (chR HO351.out) hb)
         have n1_ := Aside0.mk (blk_below (g := gb347) (o := .cells #[.string (⟨#[]⟩ : ByteArray), .string (⟨#[]⟩ : ByteArray), .int .i64 0, .int .i64 0] 35 (0, 0)) (blx BK347.out) hb)
         have n2_ := Aside0.mk (below_step chG hb)
         clear HO351
         clear BK347
         clear HB
         have HO351 := n0_
         have BK347 := n1_
         have HB := n2_
         clear n0_ n1_ n2_
         (try clear hb)
         (try clear hb2)
         (try clear hk)
         (try clear hi)
         refine hK.out _ _ ⟨HS0_, HS1_, HS2_⟩ (fun hHeld => ?_)
         clear hK K
         refine norm_ (a' := ?_) ?_ ?_
         rotate_left
         ·show Act.put _ (some 34) _ = _
          simp only [Act.put, List.setIfInBounds_toArray, List.set_cons_zero, List.set_cons_succ, i64_w, i32_w]
          rfl
         refine pure_ (i := 11) (N := some 35) (v := ?_) (a' := ?_) #[true, true, true, true, true, true, true, true, true, true, true, true, false, false] rfl rfl (any_of HT_.out (by kernel_rfl)) (fun _ _ _ h => h) (Or.inl ⟨by rfl, ?_⟩) ?_ ?_
         rotate_left
         ·intro w'
          go_simp
          with_reducible rfl
         rotate_left
         ·simp only [Act.put, List.setIfInBounds_toArray, List.set_cons_zero, List.set_cons_succ, i64_w, i32_w]
          rfl
         refine one_ (i := 12) (N := some 8) #[true, true, true, true, true, true, true, true, true, true, true, true, true, false] rfl rfl (one_of HT_.out (by kernel_rfl)) (by decide) (fun K hK => ?_)
         refine box_step ?hg (N := 8) ?hd (cs := #[.string (⟨#[]⟩ : ByteArray), .string (⟨#[]⟩ : ByteArray), .int .i64 0, .int .i64 0]) (t := 35) ?hr ?_; (case hd => rfl); (case hg => rfl); (case hr => first | (go_simp; done) | (go_simp; rfl))
         intro gb359 hg w57 hbox hb
         have HS0_ := (hb.cell (World.block_lt_of_cell? _ _ (hHeld.1))).trans (hHeld.1)
         have HS1_ := (hb.cell (World.block_lt_of_cell? _ _ (hHeld.2.1))).trans (hHeld.2.1)
         have HS2_ := (hb.cell (World.block_lt_of_cell? _ _ (hHeld.2.2))).trans (hHeld.2.2)
         have n0_ := Aside0.mk (Kd.R_below (chR HO351.out) hb)
         have n1_ := Aside0.mk (blk_below (g := gb347) (o := .cells #[.string (⟨#[]⟩ : ByteArray), .string (⟨#[]⟩ : ByteArray), .int .i64 0, .int .i64 0] 35 (0, 0)) (blx BK347.out) hb)
         have n2_ := Aside0.mk (below_step chG hb)
         have n3_ := Aside0.mk (hbox)
         have n4_ := Aside0.mk ((by rw [hg]; exact (below_size chG) : w.heap.size ≤ gb359))
         have n5_ := Aside0.mk ((by rw [hg]; exact (below_size chG) : w.heap.size ≤ gb359))
         have n6_ := Aside0.mk ((by rw [hg]; exact Nat.ne_of_lt (blk_lt (g := gb347) (o := .cells #[.string (⟨#[]⟩ : ByteArray), .string (⟨#[]⟩ : ByteArray), .int .i64 0, .int .i64 0] 35 (0, 0)) (blx BK347.out)) : gb347 ≠ gb359))
         have n7_ := Aside0.mk ((by rw [hg]; exact Nat.ne_of_gt (blk_lt (g := gb347) (o := .cells #[.string (⟨#[]⟩ : ByteArray), .string (⟨#[]⟩ : ByteArray), .int .i64 0, .int .i64 0] 35 (0, 0)) (blx BK347.out)) : gb359 ≠ gb347))
         clear HO351
         clear BK347
         clear HB
         have HO351 := n0_
         have BK347 := n1_
         have HB := n2_
         have BK359 := n3_
         have GW359 := n4_
         have GE359 := n5_
         have NB347_359 := n6_
         have NB359_347 := n7_
         clear n0_ n1_ n2_ n3_ n4_ n5_ n6_ n7_
         clear hb hbox hg
         refine hK.out _ _ ⟨HS0_, HS1_, HS2_⟩ (fun hHeld => ?_)
         clear hK K
         refine norm_ (a' := ?_) ?_ ?_
         rotate_left
         ·show Act.put _ (some 8) _ = _
          simp only [Act.put, List.setIfInBounds_toArray, List.set_cons_zero, List.set_cons_succ, i64_w, i32_w]
          rfl
         exact norm_ (by simp only [putAll, Act.put, List.setIfInBounds_toArray, List.set_cons_zero, List.set_cons_succ]) (hCont (gb359) _ ⟨hHeld, (chR HO351.out), (blx BK347.out), (blx BK359.out), GW359.out, GE359.out, NB347_359.out, NB359_347.out, chG⟩)
        ·skip
         refine box_step ?hg (N := 8) ?hd (cs := #[.string (⟨#[]⟩ : ByteArray), .string (⟨#[]⟩ : ByteArray), .int .i64 0, .int .i64 0]) (t := 35) ?hr ?_; (case hd => rfl); (case hg => rfl); (case hr => first | (go_simp; done) | (go_simp; rfl))
         intro gb359 hg w56 hbox hb
         have HS0_ := (hb.cell (World.block_lt_of_cell? _ _ (hHeld.1))).trans (hHeld.1)
         have HS1_ := (hb.cell (World.block_lt_of_cell? _ _ (hHeld.2.1))).trans (hHeld.2.1)
         have HS2_ := (hb.cell (World.block_lt_of_cell? _ _ (hHeld.2.2))).trans (hHeld.2.2)
         have n0_ := Aside0.mk (Kd.R_below (chR HO351.out) hb)
         have n1_ := Aside0.mk (blk_below (g := gb347) (o := .cells #[.string (⟨#[]⟩ : ByteArray), .string (⟨#[]⟩ : ByteArray), .int .i64 0, .int .i64 0] 35 (0, 0)) (blx BK347.out) hb)
         have n2_ := Aside0.mk (below_step chG hb)
         have n3_ := Aside0.mk (hbox)
         have n4_ := Aside0.mk ((by rw [hg]; exact (below_size chG) : w.heap.size ≤ gb359))
         have n5_ := Aside0.mk ((by rw [hg]; exact (below_size chG) : w.heap.size ≤ gb359))
         have n6_ := Aside0.mk ((by rw [hg]; exact Nat.ne_of_lt (blk_lt (g := gb347) (o := .cells #[.string (⟨#[]⟩ : ByteArray), .string (⟨#[]⟩ : ByteArray), .int .i64 0, .int .i64 0] 35 (0, 0)) (blx BK347.out)) : gb347 ≠ gb359))
         have n7_ := Aside0.mk ((by rw [hg]; exact Nat.ne_of_gt (blk_lt (g := gb347) (o := .cells #[.string (⟨#[]⟩ : ByteArray), .string (⟨#[]⟩ : ByteArray), .int .i64 0, .int .i64 0] 35 (0, 0)) (blx BK347.out)) : gb359 ≠ gb347))
         clear HO351
         clear BK347
         clear HB
         have HO351 := n0_
         have BK347 := n1_
         have HB := n2_
         have BK359 := n3_
         have GW359 := n4_
         have GE359 := n5_
         have NB347_359 := n6_
         have NB359_347 := n7_
         clear n0_ n1_ n2_ n3_ n4_ n5_ n6_ n7_
         clear hb hbox hg
         refine hK.out _ _ ⟨HS0_, HS1_, HS2_⟩ (fun hHeld => ?_)
         clear hK K
         refine norm_ (a' := ?_) ?_ ?_
         rotate_left
         ·show Act.put _ (some 8) _ = _
          simp only [Act.put, List.setIfInBounds_toArray, List.set_cons_zero, List.set_cons_succ, i64_w, i32_w]
          rfl
         refine one_ (i := 10) (N := some 34) #[true, true, true, true, true, true, true, true, true, true, true, false, true, false] rfl rfl (one_of HT_.out (by kernel_rfl)) (by decide) (fun K hK => ?_)
         refine goes_ Tryz.func35 (by kernel_rfl) rfl #[.string (rdOf ByteArray.empty t348 3)] (by rfl) rfl rfl chM ?_
         with_reducible refine (impl_atoi.calls (rdOf ByteArray.empty t348 3) t358 _ ?side_lay A9.out).mono ?_
         (case side_lay => exact LayB.up HT.out chG)
         rintro e w57 ⟨rfl, hb⟩
         have HS0_ := (hb.cell (World.block_lt_of_cell? _ _ (hHeld.1))).trans (hHeld.1)
         have HS1_ := (hb.cell (World.block_lt_of_cell? _ _ (hHeld.2.1))).trans (hHeld.2.1)
         have HS2_ := (hb.cell (World.block_lt_of_cell? _ _ (hHeld.2.2))).trans (hHeld.2.2)
         refine ⟨_, rfl, ?_⟩
         have n0_ := Aside0.mk (Kd.R_below (chR HO351.out) hb)
         have n1_ := Aside0.mk (blk_below (g := gb347) (o := .cells #[.string (⟨#[]⟩ : ByteArray), .string (⟨#[]⟩ : ByteArray), .int .i64 0, .int .i64 0] 35 (0, 0)) (blx BK347.out) hb)
         have n2_ := Aside0.mk (blk_below (g := gb359) (o := .cells #[.string (⟨#[]⟩ : ByteArray), .string (⟨#[]⟩ : ByteArray), .int .i64 0, .int .i64 0] 35 (0, 0)) (blx BK359.out) hb)
         have n3_ := Aside0.mk (below_step chG hb)
         clear HO351
         clear BK347
         clear BK359
         clear HB
         have HO351 := n0_
         have BK347 := n1_
         have BK359 := n2_
         have HB := n3_
         clear n0_ n1_ n2_ n3_
         (try clear hb)
         (try clear hb2)
         (try clear hk)
         (try clear hi)
         refine hK.out _ _ ⟨HS0_, HS1_, HS2_⟩ (fun hHeld => ?_)
         clear hK K
         refine norm_ (a' := ?_) ?_ ?_
         rotate_left
         ·show Act.put _ (some 34) _ = _
          simp only [Act.put, List.setIfInBounds_toArray, List.set_cons_zero, List.set_cons_succ, i64_w, i32_w]
          rfl
         refine pure_ (i := 11) (N := some 35) (v := ?_) (a' := ?_) #[true, true, true, true, true, true, true, true, true, true, true, true, true, false] rfl rfl (any_of HT_.out (by kernel_rfl)) (fun _ _ _ h => h) (Or.inl ⟨by rfl, ?_⟩) ?_ ?_
         rotate_left
         ·intro w'
          go_simp
          with_reducible rfl
         rotate_left
         ·simp only [Act.put, List.setIfInBounds_toArray, List.set_cons_zero, List.set_cons_succ, i64_w, i32_w]
          rfl
         exact norm_ (by simp only [putAll, Act.put, List.setIfInBounds_toArray, List.set_cons_zero, List.set_cons_succ]) (hCont (gb359) _ ⟨hHeld, (chR HO351.out), (blx BK347.out), (blx BK359.out), GW359.out, GE359.out, NB347_359.out, NB359_347.out, chG⟩)
       rintro gb359 w58 ⟨hS_, h0_, h1_, h2_, h3_, h4_, h5_, h6_, h7_⟩
       have n0_ : Aside0 (Kd.R Kd.string 9 w58 w.heap.size (fun _ => True) (.slice (some ad352) t348.length co53) t348) := ⟨h0_⟩
       have n1_ : Aside0 (w58.heap[gb347]? = some (.cells #[.string (⟨#[]⟩ : ByteArray), .string (⟨#[]⟩ : ByteArray), .int .i64 0, .int .i64 0] 35 (0, 0))) := ⟨h1_⟩
       have n2_ : Aside0 (w58.heap[gb359]? = some (.cells #[.string (⟨#[]⟩ : ByteArray), .string (⟨#[]⟩ : ByteArray), .int .i64 0, .int .i64 0] 35 (0, 0))) := ⟨h2_⟩
       have n3_ : Aside0 (w.heap.size ≤ gb359) := ⟨h3_⟩
       have n4_ : Aside0 (w.heap.size ≤ gb359) := ⟨h4_⟩
       have n5_ : Aside0 (gb347 ≠ gb359) := ⟨h5_⟩
       have n6_ : Aside0 (gb359 ≠ gb347) := ⟨h6_⟩
       have n7_ : Aside0 (Below w.heap.size w w58) := ⟨h7_⟩
       clear HO351
       clear BK347
       clear HB
       clear h0_ h1_ h2_ h3_ h4_ h5_ h6_ h7_
       have HO351 := n0_
       have BK347 := n1_
       have BK359 := n2_
       have GW359 := n3_
       have GE359 := n4_
       have NB347_359 := n5_
       have NB359_347 := n6_
       have HB := n7_
       clear n0_ n1_ n2_ n3_ n4_ n5_ n6_ n7_
       have hHeld : w58.cell? ad352 = some (.string (rdOf ByteArray.empty t348 0)) ∧ w58.cell? ⟨ad352.block, ad352.off + 1, none⟩ = some (.string (rdOf ByteArray.empty t348 1)) ∧ w58.cell? ⟨ad352.block, ad352.off + 3, none⟩ = some (.string (rdOf ByteArray.empty t348 3)) := hS_
       refine norm_ (a' := ?_) ?_ ?_
       rotate_left
       ·simp only [putAll, Act.put, List.setIfInBounds_toArray, List.set_cons_zero, List.set_cons_succ]
        rfl
       refine one_ (i := 13) (N := none) #[true, true, true, true, true, true, true, true, true, true, true, true, true, true] rfl rfl (one_of HT_.out (by kernel_rfl)) (by decide) (fun K hK => ?_)
       have hs59 : w58.cell? ⟨gb359, 0, none⟩ = some (.string (⟨#[]⟩ : ByteArray)) := (blk_cell BK359.out 0).trans rfl
       have hfs59 := blk_frozen BK359.out 0
       have hns59_0 := NB347_359.out
       have hms59_0 := NB359_347.out
       have hs60 : w58.cell? ⟨gb359, 1, none⟩ = some (.string (⟨#[]⟩ : ByteArray)) := (blk_cell BK359.out 1).trans rfl
       have hfs60 := blk_frozen BK359.out 1
       have hns60_0 := NB347_359.out
       have hms60_0 := NB359_347.out
       have hs61 : w58.cell? ⟨gb359, 2, none⟩ = some (.int .i64 0) := (blk_cell BK359.out 2).trans rfl
       have hfs61 := blk_frozen BK359.out 2
       have hns61_0 := NB347_359.out
       have hms61_0 := NB359_347.out
       have hs62 : w58.cell? ⟨gb359, 3, none⟩ = some (.int .i64 0) := (blk_cell BK359.out 3).trans rfl
       have hfs62 := blk_frozen BK359.out 3
       have hns62_0 := NB347_359.out
       have hms62_0 := NB359_347.out
       refine skip_ (w1 := ?_) (by rfl) rfl ?_ ?_
       rotate_left
       ·go_simp
        rfl
       refine hK.out _ _ ⟨((cell_far (p := ⟨gb359, _, none⟩) (by first | exact Kd.own_blk (Kd.R_ne HO351.out BK359.out (by decide)) | (rw [add_block]; exact Kd.own_blk (Kd.R_ne HO351.out BK359.out (by decide))) | (show (Addr.add _ _).block ≠ _; rw [add_block]; exact Kd.own_blk (Kd.R_ne HO351.out BK359.out (by decide))) | (dsimp only; exact Kd.own_blk (Kd.R_ne HO351.out BK359.out (by decide)))) _).trans (((cell_far (p := ⟨gb359, _, none⟩) (by first | exact Kd.own_blk (Kd.R_ne HO351.out BK359.out (by decide)) | (rw [add_block]; exact Kd.own_blk (Kd.R_ne HO351.out BK359.out (by decide))) | (show (Addr.add _ _).block ≠ _; rw [add_block]; exact Kd.own_blk (Kd.R_ne HO351.out BK359.out (by decide))) | (dsimp only; exact Kd.own_blk (Kd.R_ne HO351.out BK359.out (by decide)))) _).trans (((cell_far (p := ⟨gb359, _, none⟩) (by first | exact Kd.own_blk (Kd.R_ne HO351.out BK359.out (by decide)) | (rw [add_block]; exact Kd.own_blk (Kd.R_ne HO351.out BK359.out (by decide))) | (show (Addr.add _ _).block ≠ _; rw [add_block]; exact Kd.own_blk (Kd.R_ne HO351.out BK359.out (by decide))) | (dsimp only; exact Kd.own_blk (Kd.R_ne HO351.out BK359.out (by decide)))) _).trans (((cell_far (p := ⟨gb359, _, none⟩) (by first | exact Kd.own_blk (Kd.R_ne HO351.out BK359.out (by decide)) | (rw [add_block]; exact Kd.own_blk (Kd.R_ne HO351.out BK359.out (by decide))) | (show (Addr.add _ _).block ≠ _; rw [add_block]; exact Kd.own_blk (Kd.R_ne HO351.out BK359.out (by decide))) | (dsimp only; exact Kd.own_blk (Kd.R_ne HO351.out BK359.out (by decide)))) _).trans (hHeld.1)))))))), ((cell_far (p := ⟨gb359, _, none⟩) (by first | exact Kd.own_blk (Kd.R_ne HO351.out BK359.out (by decide)) | (rw [add_block]; exact Kd.own_blk (Kd.R_ne HO351.out BK359.out (by decide))) | (show (Addr.add _ _).block ≠ _; rw [add_block]; exact Kd.own_blk (Kd.R_ne HO351.out BK359.out (by decide))) | (dsimp only; exact Kd.own_blk (Kd.R_ne HO351.out BK359.out (by decide)))) _).trans (((cell_far (p := ⟨gb359, _, none⟩) (by first | exact Kd.own_blk (Kd.R_ne HO351.out BK359.out (by decide)) | (rw [add_block]; exact Kd.own_blk (Kd.R_ne HO351.out BK359.out (by decide))) | (show (Addr.add _ _).block ≠ _; rw [add_block]; exact Kd.own_blk (Kd.R_ne HO351.out BK359.out (by decide))) | (dsimp only; exact Kd.own_blk (Kd.R_ne HO351.out BK359.out (by decide)))) _).trans (((cell_far (p := ⟨gb359, _, none⟩) (by first | exact Kd.own_blk (Kd.R_ne HO351.out BK359.out (by decide)) | (rw [add_block]; exact Kd.own_blk (Kd.R_ne HO351.out BK359.out (by decide))) | (show (Addr.add _ _).block ≠ _; rw [add_block]; exact Kd.own_blk (Kd.R_ne HO351.out BK359.out (by decide))) | (dsimp only; exact Kd.own_blk (Kd.R_ne HO351.out BK359.out (by decide)))) _).trans (((cell_far (p := ⟨gb359, _, none⟩) (by first | exact Kd.own_blk (Kd.R_ne HO351.out BK359.out (by decide)) | (rw [add_block]; exact Kd.own_blk (Kd.R_ne HO351.out BK359.out (by decide))) | (show (Addr.add _ _).block ≠ _; rw [add_block]; exact Kd.own_blk (Kd.R_ne HO351.out BK359.out (by decide))) | (dsimp only; exact Kd.own_blk (Kd.R_ne HO351.out BK359.out (by decide)))) _).trans (hHeld.2.1)))))))), ((cell_far (p := ⟨gb359, _, none⟩) (by first | exact Kd.own_blk (Kd.R_ne HO351.out BK359.out (by decide)) | (rw [add_block]; exact Kd.own_blk (Kd.R_ne HO351.out BK359.out (by decide))) | (show (Addr.add _ _).block ≠ _; rw [add_block]; exact Kd.own_blk (Kd.R_ne HO351.out BK359.out (by decide))) | (dsimp only; exact Kd.own_blk (Kd.R_ne HO351.out BK359.out (by decide)))) _).trans (((cell_far (p := ⟨gb359, _, none⟩) (by first | exact Kd.own_blk (Kd.R_ne HO351.out BK359.out (by decide)) | (rw [add_block]; exact Kd.own_blk (Kd.R_ne HO351.out BK359.out (by decide))) | (show (Addr.add _ _).block ≠ _; rw [add_block]; exact Kd.own_blk (Kd.R_ne HO351.out BK359.out (by decide))) | (dsimp only; exact Kd.own_blk (Kd.R_ne HO351.out BK359.out (by decide)))) _).trans (((cell_far (p := ⟨gb359, _, none⟩) (by first | exact Kd.own_blk (Kd.R_ne HO351.out BK359.out (by decide)) | (rw [add_block]; exact Kd.own_blk (Kd.R_ne HO351.out BK359.out (by decide))) | (show (Addr.add _ _).block ≠ _; rw [add_block]; exact Kd.own_blk (Kd.R_ne HO351.out BK359.out (by decide))) | (dsimp only; exact Kd.own_blk (Kd.R_ne HO351.out BK359.out (by decide)))) _).trans (((cell_far (p := ⟨gb359, _, none⟩) (by first | exact Kd.own_blk (Kd.R_ne HO351.out BK359.out (by decide)) | (rw [add_block]; exact Kd.own_blk (Kd.R_ne HO351.out BK359.out (by decide))) | (show (Addr.add _ _).block ≠ _; rw [add_block]; exact Kd.own_blk (Kd.R_ne HO351.out BK359.out (by decide))) | (dsimp only; exact Kd.own_blk (Kd.R_ne HO351.out BK359.out (by decide)))) _).trans (hHeld.2.2))))))))⟩ (fun hHeld => ?_)
       clear hK K
       refine done_ (done_of HT_.out (by kernel_rfl)) ?_
       have hnb63 := NB359_347.out
       have hnc63 := NB347_359.out
       obtain ⟨hcz64_0, hcz64_1, hcz64_2, hcz64_3, hfz64_0, hfz64_1, hfz64_2, hfz64_3⟩ := blk4 BK359.out
       try go_wp2_with (first | ((with_reducible refine gate_callee (f := 20) rfl ?_); refine goesL_ (some 37) rfl rfl Tryz.func20 (by kernel_rfl) rfl #[.agg #[.string (rdOf ByteArray.empty t348 0), .string (rdOf ByteArray.empty t348 1), .int .i64 t353, .int .i64 t358]] rfl chM ?_; (with_reducible refine (impl_SampleOk.calls k (rdOf ByteArray.empty t348 0) (rdOf ByteArray.empty t348 1) t353 t358 false _ A10.out).mono ?_); rintro e w65 ⟨rfl, hb⟩; refine ⟨_, rfl, ?_⟩; have n0_ := Aside0.mk (Kd.R_below (by (with_reducible repeat (first | apply Kd.R_alloc | apply Kd.R_drewN | apply Kd.R_drew)); exact (Kd.R_mono (Kd.R_far (p := ⟨gb359, 3, none⟩) (Kd.R_far (p := ⟨gb359, 2, none⟩) (Kd.R_far (p := ⟨gb359, 1, none⟩) (Kd.R_far (p := ⟨gb359, 0, none⟩) (Kd.R_types HO351.out BK359.out (by decide)) (fun _ hk => hk.2) (.string (rdOf ByteArray.empty t348 0))) (fun _ hk => hk.2) (.string (rdOf ByteArray.empty t348 1))) (fun _ hk => hk.2) (.int .i64 t353)) (fun _ hk => hk.2) (.int .i64 t358)) (fun _ h_ => h_.1))) hb); have n1_ := Aside0.mk (blk_below (g := gb347) (o := .cells #[.string (⟨#[]⟩ : ByteArray), .string (⟨#[]⟩ : ByteArray), .int .i64 0, .int .i64 0] 35 (0, 0)) (blx BK347.out) hb); have n2_ := Aside0.mk (blk_below (g := gb359) (o := .cells #[.string (rdOf ByteArray.empty t348 0), .string (rdOf ByteArray.empty t348 1), .int .i64 t353, .int .i64 t358] 35 (0, 0)) (by (with_reducible repeat (first | refine blk_drewN ?_ _ | refine blk_drew ?_ | refine blk_alloc ?_ _)); refine blk_put (cs := #[.string (rdOf ByteArray.empty t348 0), .string (rdOf ByteArray.empty t348 1), .int .i64 t353, .int .i64 0]) ?_ 3 _ rfl; (with_reducible repeat (first | refine blk_drewN ?_ _ | refine blk_drew ?_ | refine blk_alloc ?_ _)); refine blk_put (cs := #[.string (rdOf ByteArray.empty t348 0), .string (rdOf ByteArray.empty t348 1), .int .i64 0, .int .i64 0]) ?_ 2 _ rfl; (with_reducible repeat (first | refine blk_drewN ?_ _ | refine blk_drew ?_ | refine blk_alloc ?_ _)); refine blk_put (cs := #[.string (rdOf ByteArray.empty t348 0), .string (⟨#[]⟩ : ByteArray), .int .i64 0, .int .i64 0]) ?_ 1 _ rfl; (with_reducible repeat (first | refine blk_drewN ?_ _ | refine blk_drew ?_ | refine blk_alloc ?_ _)); refine blk_put (cs := #[.string (⟨#[]⟩ : ByteArray), .string (⟨#[]⟩ : ByteArray), .int .i64 0, .int .i64 0]) ?_ 0 _ rfl; (with_reducible repeat (first | refine blk_drewN ?_ _ | refine blk_drew ?_ | refine blk_alloc ?_ _)); exact BK359.out) hb); have n3_ := Aside0.mk (below_step chG hb); clear HO351; clear BK347; clear BK359; clear HB; have HO351 := n0_; have BK347 := n1_; have BK359 := n2_; have HB := n3_; clear n0_ n1_ n2_ n3_; (try clear hb); (try clear hb2); (try clear hk); (try clear hi); obtain ⟨hcz66_0, hcz66_1, hcz66_2, hcz66_3, hfz66_0, hfz66_1, hfz66_2, hfz66_3⟩ := blk4 BK347.out))
       refine bodyPost_ret (results_ct rfl _ _ gb347 35 #[.string (⟨#[]⟩ : ByteArray), .string (⟨#[]⟩ : ByteArray), .int .i64 0, .int .i64 0] (0, 0) _ rfl (by (with_reducible repeat (first | refine blk_drewN ?_ _ | refine blk_drew ?_ | refine blk_alloc ?_ _)); refine blk_put (cs := #[.string (⟨#[]⟩ : ByteArray), .string (⟨#[]⟩ : ByteArray), .int .i64 0, .int .i64 0]) ?_ 3 _ rfl; (with_reducible repeat (first | refine blk_drewN ?_ _ | refine blk_drew ?_ | refine blk_alloc ?_ _)); refine blk_put (cs := #[.string (⟨#[]⟩ : ByteArray), .string (⟨#[]⟩ : ByteArray), .int .i64 0, .int .i64 0]) ?_ 2 _ rfl; (with_reducible repeat (first | refine blk_drewN ?_ _ | refine blk_drew ?_ | refine blk_alloc ?_ _)); refine blk_put (cs := #[.string (⟨#[]⟩ : ByteArray), .string (⟨#[]⟩ : ByteArray), .int .i64 0, .int .i64 0]) ?_ 1 _ rfl; (with_reducible repeat (first | refine blk_drewN ?_ _ | refine blk_drew ?_ | refine blk_alloc ?_ _)); refine blk_put (cs := #[.string (⟨#[]⟩ : ByteArray), .string (⟨#[]⟩ : ByteArray), .int .i64 0, .int .i64 0]) ?_ 0 _ rfl; (with_reducible repeat (first | refine blk_drewN ?_ _ | refine blk_drew ?_ | refine blk_alloc ?_ _)); exact BK347.out) Tryz.underlying35 rfl (by kernel_rfl)) rfl ?_
       exact ⟨chE, chG⟩
     ·rw [if_neg c8] at H
      exact absurd H (by simp)
    ·rw [if_neg c7] at H
     exact absurd H (by simp)
   ·rw [if_neg c6] at H
    exact absurd H (by simp)
  ·rw [if_neg c4] at H
   exact absurd H (by simp)
 ·replace c3 := Bool.eq_false_iff.mpr c3
  subst c3
  have H1 : (some ((⟨#[]⟩ : ByteArray), (⟨#[]⟩ : ByteArray), 0, 0, false)) = some (r1, r2, r3, r4, r5) := by rw [if_neg (show ¬ (false = true) by decide)] at H; exact H
  clear H
  have H := H1
  clear H1
  simp only [Option.some.injEq, Prod.mk.injEq] at H
  obtain ⟨rfl, rfl, rfl, rfl, rfl⟩ := H
  go_enter Tryz.func14, Tryz.ntmps14
  go_wp2_with (first | ((with_reducible refine gate_dst (N := 2) rfl ?_); refine box_event ?hg (N := 2) ?hd (cs := #[.string (⟨#[]⟩ : ByteArray), .string (⟨#[]⟩ : ByteArray), .int .i64 0, .int .i64 0]) (t := 35) ?hr ?_; (case hd => rfl); (case hg => rfl); (case hr => first | (go_simp; done) | (go_simp; rfl)); intro gb347 hg w67 hbox hb; have n0_ := Aside0.mk (below_step chB hb); have n1_ := Aside0.mk (hbox); have n2_ := Aside0.mk ((by rw [hg]; exact (below_size chB) : w.heap.size ≤ gb347)); have n3_ := Aside0.mk ((by rw [hg]; exact (below_size chB) : w.heap.size ≤ gb347)); clear HB; have HB := n0_; have BK347 := n1_; have GW347 := n2_; have GE347 := n3_; clear n0_ n1_ n2_ n3_; clear hb hbox hg) | ((with_reducible refine gate_callee (f := 33) rfl ?_); refine goesL_ (some 11) rfl rfl Tryz.func33 (by kernel_rfl) rfl #[.string a0, .int .i64 4] rfl chM ?_; (with_reducible refine (impl_split.calls a0 4 t348 false _ ?side_lay A2.out).mono ?_); (case side_lay => exact LayB.up HT.out chG); rintro e w68 ⟨v350, rfl, ho0, hb⟩; refine ⟨_, rfl, ?_⟩; have n0_ := Aside0.mk (Kd.R_lower ho0 (below_size chG)); have n1_ := Aside0.mk (blk_below (g := gb347) (o := .cells #[.string (⟨#[]⟩ : ByteArray), .string (⟨#[]⟩ : ByteArray), .int .i64 0, .int .i64 0] 35 (0, 0)) (blx BK347.out) hb); have n2_ := Aside0.mk (below_step chG hb); clear BK347; clear HB; have HO351 := n0_; have BK347 := n1_; have HB := n2_; clear n0_ n1_ n2_; (try clear hb); (try clear hb2); (try clear hk); (try clear hi); (try clear ho0); obtain ⟨hcz69_0, hcz69_1, hcz69_2, hcz69_3, hfz69_0, hfz69_1, hfz69_2, hfz69_3⟩ := blk4 BK347.out))
  refine bodyPost_ret (results_ct rfl _ _ gb347 35 #[.string (⟨#[]⟩ : ByteArray), .string (⟨#[]⟩ : ByteArray), .int .i64 0, .int .i64 0] (0, 0) _ rfl (by (with_reducible repeat (first | refine blk_drewN ?_ _ | refine blk_drew ?_ | refine blk_alloc ?_ _)); refine blk_put (cs := #[.string (⟨#[]⟩ : ByteArray), .string (⟨#[]⟩ : ByteArray), .int .i64 0, .int .i64 0]) ?_ 3 _ rfl; (with_reducible repeat (first | refine blk_drewN ?_ _ | refine blk_drew ?_ | refine blk_alloc ?_ _)); refine blk_put (cs := #[.string (⟨#[]⟩ : ByteArray), .string (⟨#[]⟩ : ByteArray), .int .i64 0, .int .i64 0]) ?_ 2 _ rfl; (with_reducible repeat (first | refine blk_drewN ?_ _ | refine blk_drew ?_ | refine blk_alloc ?_ _)); refine blk_put (cs := #[.string (⟨#[]⟩ : ByteArray), .string (⟨#[]⟩ : ByteArray), .int .i64 0, .int .i64 0]) ?_ 1 _ rfl; (with_reducible repeat (first | refine blk_drewN ?_ _ | refine blk_drew ?_ | refine blk_alloc ?_ _)); refine blk_put (cs := #[.string (⟨#[]⟩ : ByteArray), .string (⟨#[]⟩ : ByteArray), .int .i64 0, .int .i64 0]) ?_ 0 _ rfl; (with_reducible repeat (first | refine blk_drewN ?_ _ | refine blk_drew ?_ | refine blk_alloc ?_ _)); exact BK347.out) Tryz.underlying35 rfl (by kernel_rfl)) rfl ?_
  exact ⟨chE, chG⟩
end Go.Proofs.YtbbnlagdahickaaGreatDoor.PFnSamples
