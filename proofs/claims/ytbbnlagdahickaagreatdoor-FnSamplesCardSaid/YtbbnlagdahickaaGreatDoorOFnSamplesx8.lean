/- What the Go functions impl.ParseMilli, impl.atoi compute, as Lean functions, and the proof that each call comes to just that. Conditions: those at each theorem. -/
import Derived.Test.YtbbnlagdahickaaGreatDoorOFnSamplesx0
import Derived.Test.YtbbnlagdahickaaGreatDoorOFnSamplesx5
namespace Go.Proofs.YtbbnlagdahickaaGreatDoor.PFnSamples
open Go.RowKit Go.Proofs.YtbbnlagdahickaaGreatDoorW.PrintWords Go.Proofs.YtbbnlagdahickaaGreatDoorW.PrintLast Go.Proofs.YtbbnlagdahickaaGreatDoorW.PrintMore
attribute [local go_sem] max2_int min2_int max_two min_two max_three min_three max_four min_four   -- for this text's walks alone
set_option linter.unusedVariables false
set_option linter.unusedSimpArgs false
/-! ### impl_ParseMilli: function 34 -/
def impl_ParseMilli.f (k : Nat) (a0 : ByteArray) : Option (Int × Bool) := if a0.size < 4294967281 then (match milliN a0 with
 | none => some (0, false)
 | some m => (impl_isValue.f m).bind fun b => if b = true then ((impl_MilliText.f k m).bind fun t => if t.toList = a0.toList then some (m, true) else some (0, false)) else some (0, false)) else none
set_option maxRecDepth 100000 in
theorem impl_ParseMilli.hit0 (k : Nat) (s : ByteArray) (hs : s.size < 4294967281) (w : World) (HT : LayB w) (h7 : ¬ (ahead (bare s)).size > 7) (h3 : ¬ (behind (bare s)).size > 3) (n : Int) (ha : Lib.atoiAll (digitsOf (bare s)).data.toList = .ok n)
  (he : (bare s).toList = s.toList) (t : ByteArray) (hi : impl_isValue.f n = some true) (ht : impl_MilliText.f k n = some t) (hq : t.toList = s.toList) :
  Calls Tryz.prog 34 #[.string s] w fun e w' => e = .returned (.tuple #[.int .i64 n, .bool true]) ∧ Below w.heap.size w w' := by
 have hb := bare_size s
 have c1 : decide (7 < ((ahead (bare s)).size : Int)) = false := decide_eq_false (by omega)
 have c2 : decide (7 < (ahead (bare s)).size) = false := decide_eq_false (by omega)
 have c3 : decide (3 < ((behind (bare s)).size : Int)) = false := decide_eq_false (by omega)
 have c4 : decide (3 < (behind (bare s)).size) = false := decide_eq_false (by omega)
 have c5 : ((bare s).toList == s.toList) = true := beq_iff_eq.mpr he
 have c6 : ((bare s).toList != s.toList) = false := bne_eq_false_iff_eq.mpr he
 have c7 : (t.toList == s.toList) = true := beq_iff_eq.mpr hq
 have c8 : (t.toList != s.toList) = false := bne_eq_false_iff_eq.mpr hq
 have hd := digits_size (bare s) (by omega) (by omega)
 go_enter Tryz.func34, Tryz.ntmps34
 go_wp2_with (first | (go_at_call 62; refine (LayB.trim s _).mono ?_; rintro e w' ⟨rfl, rfl⟩) | (go_at_call 63; refine (LayB.halves (bare s) (by omega) _ HT).mono ?_; rintro e w' ⟨rfl, n0, rfl⟩) | (go_at_call 64; refine (LayB.atoi_ok (digitsOf (bare s)) (by omega) n ha _).mono ?_; rintro e W1 ⟨rfl, hb1⟩) | (go_at_call 65; refine (impl_isValue.calls n true _ hi).mono ?_; rintro e w2 ⟨rfl, ⟨nd, rfl⟩⟩) | (go_at_call 37; refine ((impl_MilliText.calls k n t _ ?hlay ht)).mono ?_; (case hlay => exact (HT.up (by ((first | apply pw_below_drewN | skip); exact below_step (by repeat (first | exact Below.refl _ _ | apply pw_below_drewN)) hb1)))); rintro e W2 ⟨rfl, hb2⟩))
 go_ret2
 exact ⟨rfl, below_step (by ((first | apply pw_below_drewN | skip); exact below_step (by repeat (first | exact Below.refl _ _ | apply pw_below_drewN)) hb1)) hb2⟩
set_option maxRecDepth 100000 in
theorem impl_ParseMilli.miss0 (k : Nat) (s : ByteArray) (hs : s.size < 4294967281) (w : World) (HT : LayB w) (h7 : ¬ (ahead (bare s)).size > 7) (h3 : ¬ (behind (bare s)).size > 3) (n : Int) (ha : Lib.atoiAll (digitsOf (bare s)).data.toList = .ok n)
  (he : (bare s).toList = s.toList) (t : ByteArray) (hi : impl_isValue.f n = some true) (ht : impl_MilliText.f k n = some t) (hq : ¬ t.toList = s.toList) :
  Calls Tryz.prog 34 #[.string s] w fun e w' => e = .returned (.tuple #[.int .i64 0, .bool false]) ∧ Below w.heap.size w w' := by
 have hb := bare_size s
 have c1 : decide (7 < ((ahead (bare s)).size : Int)) = false := decide_eq_false (by omega)
 have c2 : decide (7 < (ahead (bare s)).size) = false := decide_eq_false (by omega)
 have c3 : decide (3 < ((behind (bare s)).size : Int)) = false := decide_eq_false (by omega)
 have c4 : decide (3 < (behind (bare s)).size) = false := decide_eq_false (by omega)
 have c5 : ((bare s).toList == s.toList) = true := beq_iff_eq.mpr he
 have c6 : ((bare s).toList != s.toList) = false := bne_eq_false_iff_eq.mpr he
 have c7 : (t.toList == s.toList) = false := beq_eq_false_iff_ne.mpr hq
 have c8 : (t.toList != s.toList) = true := bne_iff_ne.mpr hq
 have hd := digits_size (bare s) (by omega) (by omega)
 go_enter Tryz.func34, Tryz.ntmps34
 go_wp2_with (first | (go_at_call 62; refine (LayB.trim s _).mono ?_; rintro e w' ⟨rfl, rfl⟩) | (go_at_call 63; refine (LayB.halves (bare s) (by omega) _ HT).mono ?_; rintro e w' ⟨rfl, n0, rfl⟩) | (go_at_call 64; refine (LayB.atoi_ok (digitsOf (bare s)) (by omega) n ha _).mono ?_; rintro e W1 ⟨rfl, hb1⟩) | (go_at_call 65; refine (impl_isValue.calls n true _ hi).mono ?_; rintro e w2 ⟨rfl, ⟨nd, rfl⟩⟩) | (go_at_call 37; refine ((impl_MilliText.calls k n t _ ?hlay ht)).mono ?_; (case hlay => exact (HT.up (by ((first | apply pw_below_drewN | skip); exact below_step (by repeat (first | exact Below.refl _ _ | apply pw_below_drewN)) hb1)))); rintro e W2 ⟨rfl, hb2⟩))
 go_ret2
 exact ⟨rfl, below_step (by ((first | apply pw_below_drewN | skip); exact below_step (by repeat (first | exact Below.refl _ _ | apply pw_below_drewN)) hb1)) hb2⟩
set_option maxRecDepth 100000 in
theorem impl_ParseMilli.no0 (k : Nat) (s : ByteArray) (hs : s.size < 4294967281) (w : World) (HT : LayB w) (h7 : ¬ (ahead (bare s)).size > 7) (h3 : ¬ (behind (bare s)).size > 3) (n : Int) (ha : Lib.atoiAll (digitsOf (bare s)).data.toList = .ok n)
  (he : (bare s).toList = s.toList) (hi : impl_isValue.f n = some false) :
  Calls Tryz.prog 34 #[.string s] w fun e w' => e = .returned (.tuple #[.int .i64 0, .bool false]) ∧ Below w.heap.size w w' := by
 have hb := bare_size s
 have c1 : decide (7 < ((ahead (bare s)).size : Int)) = false := decide_eq_false (by omega)
 have c2 : decide (7 < (ahead (bare s)).size) = false := decide_eq_false (by omega)
 have c3 : decide (3 < ((behind (bare s)).size : Int)) = false := decide_eq_false (by omega)
 have c4 : decide (3 < (behind (bare s)).size) = false := decide_eq_false (by omega)
 have c5 : ((bare s).toList == s.toList) = true := beq_iff_eq.mpr he
 have c6 : ((bare s).toList != s.toList) = false := bne_eq_false_iff_eq.mpr he
 have hd := digits_size (bare s) (by omega) (by omega)
 go_enter Tryz.func34, Tryz.ntmps34
 go_wp2_with (first | (go_at_call 62; refine (LayB.trim s _).mono ?_; rintro e w' ⟨rfl, rfl⟩) | (go_at_call 63; refine (LayB.halves (bare s) (by omega) _ HT).mono ?_; rintro e w' ⟨rfl, n0, rfl⟩) | (go_at_call 64; refine (LayB.atoi_ok (digitsOf (bare s)) (by omega) n ha _).mono ?_; rintro e W1 ⟨rfl, hb1⟩) | (go_at_call 65; refine (impl_isValue.calls n false _ hi).mono ?_; rintro e w2 ⟨rfl, ⟨nd, rfl⟩⟩))
 go_ret2
 exact ⟨rfl, by ((first | apply pw_below_drewN | skip); exact below_step (by repeat (first | exact Below.refl _ _ | apply pw_below_drewN)) hb1)⟩
set_option maxRecDepth 100000 in
theorem impl_ParseMilli.hit1 (k : Nat) (s : ByteArray) (hs : s.size < 4294967281) (w : World) (HT : LayB w) (h7 : ¬ (ahead (bare s)).size > 7) (h3 : ¬ (behind (bare s)).size > 3) (n : Int) (ha : Lib.atoiAll (digitsOf (bare s)).data.toList = .ok n)
  (he : ¬ (bare s).toList = s.toList) (t : ByteArray) (hi : impl_isValue.f (wrap64 (-n)) = some true) (ht : impl_MilliText.f k (wrap64 (-n)) = some t) (hq : t.toList = s.toList) :
  Calls Tryz.prog 34 #[.string s] w fun e w' => e = .returned (.tuple #[.int .i64 (wrap64 (-n)), .bool true]) ∧ Below w.heap.size w w' := by
 have hb := bare_size s
 have c1 : decide (7 < ((ahead (bare s)).size : Int)) = false := decide_eq_false (by omega)
 have c2 : decide (7 < (ahead (bare s)).size) = false := decide_eq_false (by omega)
 have c3 : decide (3 < ((behind (bare s)).size : Int)) = false := decide_eq_false (by omega)
 have c4 : decide (3 < (behind (bare s)).size) = false := decide_eq_false (by omega)
 have c5 : ((bare s).toList == s.toList) = false := beq_eq_false_iff_ne.mpr he
 have c6 : ((bare s).toList != s.toList) = true := bne_iff_ne.mpr he
 have c7 : (t.toList == s.toList) = true := beq_iff_eq.mpr hq
 have c8 : (t.toList != s.toList) = false := bne_eq_false_iff_eq.mpr hq
 have hd := digits_size (bare s) (by omega) (by omega)
 go_enter Tryz.func34, Tryz.ntmps34
 go_wp2_with (first | (go_at_call 62; refine (LayB.trim s _).mono ?_; rintro e w' ⟨rfl, rfl⟩) | (go_at_call 63; refine (LayB.halves (bare s) (by omega) _ HT).mono ?_; rintro e w' ⟨rfl, n0, rfl⟩) | (go_at_call 64; refine (LayB.atoi_ok (digitsOf (bare s)) (by omega) n ha _).mono ?_; rintro e W1 ⟨rfl, hb1⟩) | (go_at_call 65; refine (impl_isValue.calls (wrap64 (-n)) true _ hi).mono ?_; rintro e w2 ⟨rfl, ⟨nd, rfl⟩⟩) | (go_at_call 37; refine ((impl_MilliText.calls k (wrap64 (-n)) t _ ?hlay ht)).mono ?_; (case hlay => exact (HT.up (by ((first | apply pw_below_drewN | skip); exact below_step (by repeat (first | exact Below.refl _ _ | apply pw_below_drewN)) hb1)))); rintro e W2 ⟨rfl, hb2⟩))
 go_ret2
 exact ⟨rfl, below_step (by ((first | apply pw_below_drewN | skip); exact below_step (by repeat (first | exact Below.refl _ _ | apply pw_below_drewN)) hb1)) hb2⟩
set_option maxRecDepth 100000 in
theorem impl_ParseMilli.miss1 (k : Nat) (s : ByteArray) (hs : s.size < 4294967281) (w : World) (HT : LayB w) (h7 : ¬ (ahead (bare s)).size > 7) (h3 : ¬ (behind (bare s)).size > 3) (n : Int) (ha : Lib.atoiAll (digitsOf (bare s)).data.toList = .ok n)
  (he : ¬ (bare s).toList = s.toList) (t : ByteArray) (hi : impl_isValue.f (wrap64 (-n)) = some true) (ht : impl_MilliText.f k (wrap64 (-n)) = some t) (hq : ¬ t.toList = s.toList) :
  Calls Tryz.prog 34 #[.string s] w fun e w' => e = .returned (.tuple #[.int .i64 0, .bool false]) ∧ Below w.heap.size w w' := by
 have hb := bare_size s
 have c1 : decide (7 < ((ahead (bare s)).size : Int)) = false := decide_eq_false (by omega)
 have c2 : decide (7 < (ahead (bare s)).size) = false := decide_eq_false (by omega)
 have c3 : decide (3 < ((behind (bare s)).size : Int)) = false := decide_eq_false (by omega)
 have c4 : decide (3 < (behind (bare s)).size) = false := decide_eq_false (by omega)
 have c5 : ((bare s).toList == s.toList) = false := beq_eq_false_iff_ne.mpr he
 have c6 : ((bare s).toList != s.toList) = true := bne_iff_ne.mpr he
 have c7 : (t.toList == s.toList) = false := beq_eq_false_iff_ne.mpr hq
 have c8 : (t.toList != s.toList) = true := bne_iff_ne.mpr hq
 have hd := digits_size (bare s) (by omega) (by omega)
 go_enter Tryz.func34, Tryz.ntmps34
 go_wp2_with (first | (go_at_call 62; refine (LayB.trim s _).mono ?_; rintro e w' ⟨rfl, rfl⟩) | (go_at_call 63; refine (LayB.halves (bare s) (by omega) _ HT).mono ?_; rintro e w' ⟨rfl, n0, rfl⟩) | (go_at_call 64; refine (LayB.atoi_ok (digitsOf (bare s)) (by omega) n ha _).mono ?_; rintro e W1 ⟨rfl, hb1⟩) | (go_at_call 65; refine (impl_isValue.calls (wrap64 (-n)) true _ hi).mono ?_; rintro e w2 ⟨rfl, ⟨nd, rfl⟩⟩) | (go_at_call 37; refine ((impl_MilliText.calls k (wrap64 (-n)) t _ ?hlay ht)).mono ?_; (case hlay => exact (HT.up (by ((first | apply pw_below_drewN | skip); exact below_step (by repeat (first | exact Below.refl _ _ | apply pw_below_drewN)) hb1)))); rintro e W2 ⟨rfl, hb2⟩))
 go_ret2
 exact ⟨rfl, below_step (by ((first | apply pw_below_drewN | skip); exact below_step (by repeat (first | exact Below.refl _ _ | apply pw_below_drewN)) hb1)) hb2⟩
set_option maxRecDepth 100000 in
theorem impl_ParseMilli.no1 (k : Nat) (s : ByteArray) (hs : s.size < 4294967281) (w : World) (HT : LayB w) (h7 : ¬ (ahead (bare s)).size > 7) (h3 : ¬ (behind (bare s)).size > 3) (n : Int) (ha : Lib.atoiAll (digitsOf (bare s)).data.toList = .ok n)
  (he : ¬ (bare s).toList = s.toList) (hi : impl_isValue.f (wrap64 (-n)) = some false) :
  Calls Tryz.prog 34 #[.string s] w fun e w' => e = .returned (.tuple #[.int .i64 0, .bool false]) ∧ Below w.heap.size w w' := by
 have hb := bare_size s
 have c1 : decide (7 < ((ahead (bare s)).size : Int)) = false := decide_eq_false (by omega)
 have c2 : decide (7 < (ahead (bare s)).size) = false := decide_eq_false (by omega)
 have c3 : decide (3 < ((behind (bare s)).size : Int)) = false := decide_eq_false (by omega)
 have c4 : decide (3 < (behind (bare s)).size) = false := decide_eq_false (by omega)
 have c5 : ((bare s).toList == s.toList) = false := beq_eq_false_iff_ne.mpr he
 have c6 : ((bare s).toList != s.toList) = true := bne_iff_ne.mpr he
 have hd := digits_size (bare s) (by omega) (by omega)
 go_enter Tryz.func34, Tryz.ntmps34
 go_wp2_with (first | (go_at_call 62; refine (LayB.trim s _).mono ?_; rintro e w' ⟨rfl, rfl⟩) | (go_at_call 63; refine (LayB.halves (bare s) (by omega) _ HT).mono ?_; rintro e w' ⟨rfl, n0, rfl⟩) | (go_at_call 64; refine (LayB.atoi_ok (digitsOf (bare s)) (by omega) n ha _).mono ?_; rintro e W1 ⟨rfl, hb1⟩) | (go_at_call 65; refine (impl_isValue.calls (wrap64 (-n)) false _ hi).mono ?_; rintro e w2 ⟨rfl, ⟨nd, rfl⟩⟩))
 go_ret2
 exact ⟨rfl, by ((first | apply pw_below_drewN | skip); exact below_step (by repeat (first | exact Below.refl _ _ | apply pw_below_drewN)) hb1)⟩
theorem impl_ParseMilli.calls (k : Nat) (a0 : ByteArray) (r1 : Int) (r2 : Bool) (w : World) (HT0 : LayB w) (h : impl_ParseMilli.f k a0 = some (r1, r2)) :
  Calls Tryz.prog 34 #[.string a0] w fun e w' => e = .returned (.tuple #[.int .i64 r1, .bool r2]) ∧ Below w.heap.size w w' := by
 unfold impl_ParseMilli.f at h
 by_cases h0 : a0.size < 4294967281
 ·rw [if_pos h0] at h
  cases hm : milliN a0 with
  | none =>
   rw [hm] at h
   simp only [Option.some.injEq, Prod.mk.injEq] at h
   obtain ⟨rfl, rfl⟩ := h
   exact LayB.parseMilli_miss a0 h0 w HT0 hm
  | some m =>
   rw [hm] at h
   simp only at h
   obtain ⟨h7, h3, n, ha, hmn⟩ := milliN_some hm
   obtain ⟨b, hb, h⟩ := Option.bind_eq_some_iff.1 h
   by_cases he : (bare a0).toList = a0.toList
   ·rw [if_pos he] at hmn
    subst hmn
    cases b with
    | true =>
     rw [if_pos rfl] at h
     obtain ⟨t, ht, h⟩ := Option.bind_eq_some_iff.1 h
     by_cases hq : t.toList = a0.toList
     ·rw [if_pos hq] at h
      simp only [Option.some.injEq, Prod.mk.injEq] at h
      obtain ⟨rfl, rfl⟩ := h
      exact impl_ParseMilli.hit0 k a0 h0 w HT0 h7 h3 _ ha he t hb ht hq
     ·rw [if_neg hq] at h
      simp only [Option.some.injEq, Prod.mk.injEq] at h
      obtain ⟨rfl, rfl⟩ := h
      exact impl_ParseMilli.miss0 k a0 h0 w HT0 h7 h3 _ ha he t hb ht hq
    | false =>
     rw [if_neg (by simp)] at h
     simp only [Option.some.injEq, Prod.mk.injEq] at h
     obtain ⟨rfl, rfl⟩ := h
     exact impl_ParseMilli.no0 k a0 h0 w HT0 h7 h3 _ ha he hb
   ·rw [if_neg he] at hmn
    subst hmn
    cases b with
    | true =>
     rw [if_pos rfl] at h
     obtain ⟨t, ht, h⟩ := Option.bind_eq_some_iff.1 h
     by_cases hq : t.toList = a0.toList
     ·rw [if_pos hq] at h
      simp only [Option.some.injEq, Prod.mk.injEq] at h
      obtain ⟨rfl, rfl⟩ := h
      exact impl_ParseMilli.hit1 k a0 h0 w HT0 h7 h3 _ ha he t hb ht hq
     ·rw [if_neg hq] at h
      simp only [Option.some.injEq, Prod.mk.injEq] at h
      obtain ⟨rfl, rfl⟩ := h
      exact impl_ParseMilli.miss1 k a0 h0 w HT0 h7 h3 _ ha he t hb ht hq
    | false =>
     rw [if_neg (by simp)] at h
     simp only [Option.some.injEq, Prod.mk.injEq] at h
     obtain ⟨rfl, rfl⟩ := h
     exact impl_ParseMilli.no1 k a0 h0 w HT0 h7 h3 _ ha he hb
 ·rw [if_neg h0] at h
  cases h
/-! ### impl_atoi: function 35 -/
def impl_atoi.f (a0 : ByteArray) : Option (Int) := if a0.size ≤ 281474976710656 then (some (atoiOf a0)) else (none)
theorem impl_atoi.calls (a0 : ByteArray) (r : Int) (w : World) (HT0 : LayB w) (h : impl_atoi.f a0 = some r) :
  Calls Tryz.prog 35 #[.string a0] w fun e w' => e = .returned (.int .i64 r) ∧ Below w.heap.size w w' := by
 unfold impl_atoi.f at h
 by_cases h0 : a0.size ≤ 281474976710656
 ·rw [if_pos h0] at h
  obtain rfl := Option.some.inj h
  exact LayB.atoi a0 h0 w HT0
 ·rw [if_neg h0] at h
  exact absurd h (by simp)
end Go.Proofs.YtbbnlagdahickaaGreatDoor.PFnSamples
