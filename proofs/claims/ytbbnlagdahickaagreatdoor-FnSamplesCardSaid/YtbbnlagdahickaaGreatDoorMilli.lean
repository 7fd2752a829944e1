/- The library calls of the program's ParseMilli in the walks' form, and its three early ends: too long ahead of the point, too long behind it, no numeral. Conditions: those at each theorem. -/
import Derived.Test.YtbbnlagdahickaaGreatDoorLayB
namespace Go.Proofs.YtbbnlagdahickaaGreatDoor
open Go.RowKit Go.Proofs.YtbbnlagdahickaaGreatDoorW.PrintWords
/-- A word without a sign ahead, and its two halves at the point. -/
def bare (s : ByteArray) : ByteArray := ⟨(Lib.trimPrefix s.data.toList [45]).toArray⟩
def ahead (p : ByteArray) : ByteArray := ⟨(Lib.cut p.data.toList [46]).1.toArray⟩
def behind (p : ByteArray) : ByteArray := ⟨(Lib.cut p.data.toList [46]).2.1.toArray⟩
def pointed (p : ByteArray) : Bool := (Lib.cut p.data.toList [46]).2.2
theorem LayB.trim (s : ByteArray) (w : World) : Calls Tryz.prog 62 #[.string s, .string ⟨#[45]⟩] w fun e w' => e = .returned (.string (bare s)) ∧ w' = w := Tryz.strings_TrimPrefix s ⟨#[45]⟩ w
theorem LayB.halves (p : ByteArray) (hp : p.size < 4294967281) (w : World) (HT : LayB w) : Calls Tryz.prog 63 #[.string p, .string ⟨#[46]⟩] w fun e w' => e = .returned (.tuple #[.string (ahead p), .string (behind p), .bool (pointed p)]) ∧ ∃ n, w' = w.drewN n := by
  obtain ⟨m, hm⟩ := HT.len
  exact Tryz.strings_Cut p ⟨#[46]⟩ m w hp hm
theorem bare_size (s : ByteArray) : (bare s).size ≤ s.size := by
  show (Lib.trimPrefix s.data.toList [45]).length ≤ s.size
  rw [← data_length s]
  unfold Lib.trimPrefix
  split
  · simp
  · exact Nat.le_refl _
def digitsOf (p : ByteArray) : ByteArray := ahead p ++ (behind p ++ ⟨#[48, 48, 48]⟩).extract 0 3
theorem digits_size (p : ByteArray) (h1 : (ahead p).size ≤ 7) (_ : (behind p).size ≤ 3) : (digitsOf p).size ≤ 10 := by
  unfold digitsOf
  rw [ByteArray.size_append, ByteArray.size_extract]
  omega
theorem LayB.atoi_ok (t : ByteArray) (hlim : t.size ≤ 281474976710656) (v : Int) (h : Lib.atoiAll t.data.toList = .ok v) (w : World) :
    Calls Tryz.prog 64 #[.string t] w fun e w' => e = .returned (.tuple #[.int .i64 v, .nilIface]) ∧ Below w.heap.size w w' := by
  refine (Tryz.strconv_Atoi_ok t (by omega) v h w).mono ?_
  rintro e w' ⟨rfl, hw⟩
  refine ⟨rfl, ?_⟩
  rcases hw with rfl | ⟨t, rfl⟩
  · exact Below.refl _ _
  · exact Lib.bytesWorld_below _ _ _
theorem LayB.atoi_err (t : ByteArray) (hlim : t.size ≤ 281474976710656) (h : ∀ v, Lib.atoiAll t.data.toList ≠ .ok v) (w : World) (HT : LayB w) :
    Calls Tryz.prog 64 #[.string t] w fun e w' => ∃ x tp p, e = .returned (.tuple #[.int .i64 x, .iface tp p]) ∧ Below w.heap.size w w' := by
  obtain ⟨t0, p0, hv0⟩ := HT.e0
  obtain ⟨t1, p1, hv1⟩ := HT.e1
  rcases h1 : Lib.atoiAll t.data.toList with v | _ | _
  · exact absurd h1 (h v)
  · refine (Any.strconv_Atoi_syntax Tryz.laysC172 t hlim h1 _ _ hv0 (.inr ⟨t0, p0, rfl⟩)).mono ?_
    rintro e W1 ⟨N, rfl, -, -, hb⟩
    exact ⟨_, _, _, rfl, hb⟩
  · refine (Any.strconv_Atoi_range Tryz.laysC172 t hlim h1 _ _ hv1 (.inr ⟨t1, p1, rfl⟩)).mono ?_
    rintro e W1 ⟨N, rfl, -, -, hb⟩
    exact ⟨_, _, _, rfl, hb⟩
set_option maxRecDepth 100000 in
theorem LayB.parseMilli_long (s : ByteArray) (hs : s.size < 4294967281) (w : World) (HT : LayB w) (h7 : (ahead (bare s)).size > 7) :
    Calls Tryz.prog 34 #[.string s] w fun e w' => e = .returned (.tuple #[.int .i64 0, .bool false]) ∧ Below w.heap.size w w' := by
  have hb := bare_size s
  have c1 : decide (7 < ((ahead (bare s)).size : Int)) = true := decide_eq_true (by omega)
  have c2 : decide (7 < (ahead (bare s)).size) = true := decide_eq_true (by omega)
  go_enter Tryz.func34, Tryz.ntmps34
  go_wp2_with (first | (go_at_call 62; refine (LayB.trim s _).mono ?_; rintro e w' ⟨rfl, rfl⟩) | (go_at_call 63; refine (LayB.halves (bare s) (by omega) _ HT).mono ?_; rintro e w' ⟨rfl, n, rfl⟩))
  go_ret2
  exact ⟨rfl, by repeat (first | exact Below.refl _ _ | apply pw_below_drewN)⟩

set_option maxRecDepth 100000 in
theorem LayB.parseMilli_far (s : ByteArray) (hs : s.size < 4294967281) (w : World) (HT : LayB w) (h7 : ¬ (ahead (bare s)).size > 7) (h3 : (behind (bare s)).size > 3) :
    Calls Tryz.prog 34 #[.string s] w fun e w' => e = .returned (.tuple #[.int .i64 0, .bool false]) ∧ Below w.heap.size w w' := by
  have hb := bare_size s
  have c1 : decide (7 < ((ahead (bare s)).size : Int)) = false := decide_eq_false (by omega)
  have c2 : decide (7 < (ahead (bare s)).size) = false := decide_eq_false (by omega)
  have c3 : decide (3 < ((behind (bare s)).size : Int)) = true := decide_eq_true (by omega)
  have c4 : decide (3 < (behind (bare s)).size) = true := decide_eq_true (by omega)
  go_enter Tryz.func34, Tryz.ntmps34
  go_wp2_with (first | (go_at_call 62; refine (LayB.trim s _).mono ?_; rintro e w' ⟨rfl, rfl⟩) | (go_at_call 63; refine (LayB.halves (bare s) (by omega) _ HT).mono ?_; rintro e w' ⟨rfl, n, rfl⟩))
  go_ret2
  exact ⟨rfl, by repeat (first | exact Below.refl _ _ | apply pw_below_drewN)⟩
set_option maxRecDepth 100000 in
theorem LayB.parseMilli_none (s : ByteArray) (hs : s.size < 4294967281) (w : World) (HT : LayB w) (h7 : ¬ (ahead (bare s)).size > 7) (h3 : ¬ (behind (bare s)).size > 3) (ha : ∀ v, Lib.atoiAll (digitsOf (bare s)).data.toList ≠ .ok v) :
    Calls Tryz.prog 34 #[.string s] w fun e w' => e = .returned (.tuple #[.int .i64 0, .bool false]) ∧ Below w.heap.size w w' := by
  have hb := bare_size s
  have c1 : decide (7 < ((ahead (bare s)).size : Int)) = false := decide_eq_false (by omega)
  have c2 : decide (7 < (ahead (bare s)).size) = false := decide_eq_false (by omega)
  have c3 : decide (3 < ((behind (bare s)).size : Int)) = false := decide_eq_false (by omega)
  have c4 : decide (3 < (behind (bare s)).size) = false := decide_eq_false (by omega)
  go_enter Tryz.func34, Tryz.ntmps34
  go_wp2_with (first | (go_at_call 62; refine (LayB.trim s _).mono ?_; rintro e w' ⟨rfl, rfl⟩) | (go_at_call 63; refine (LayB.halves (bare s) (by omega) _ HT).mono ?_; rintro e w' ⟨rfl, n, rfl⟩))
  have hd := digits_size (bare s) (by omega) (by omega)
  go_wp2_with (go_at_call 64; refine (LayB.atoi_err (digitsOf (bare s)) (by omega) ha _ ?_).mono ?_)
  · exact HT.up (by repeat (first | exact Below.refl _ _ | apply pw_below_drewN))
  rintro e W1 ⟨x, tp, p, rfl, hb⟩
  go_wp2
  go_ret2
  exact ⟨rfl, below_step (by repeat (first | exact Below.refl _ _ | apply pw_below_drewN)) hb⟩
/-- The number that the word's digits spell, with its sign; none where the word is too long or no numeral. -/
def milliN (s : ByteArray) : Option Int := if 7 < (ahead (bare s)).size then none else if 3 < (behind (bare s)).size then none else match Lib.atoiAll (digitsOf (bare s)).data.toList with
  | .ok n => some (if (bare s).toList = s.toList then n else wrap64 (-n))
  | _ => none
theorem LayB.parseMilli_miss (s : ByteArray) (hs : s.size < 4294967281) (w : World) (HT : LayB w) (h : milliN s = none) :
    Calls Tryz.prog 34 #[.string s] w fun e w' => e = .returned (.tuple #[.int .i64 0, .bool false]) ∧ Below w.heap.size w w' := by
  unfold milliN at h
  by_cases h7 : 7 < (ahead (bare s)).size
  · exact LayB.parseMilli_long s hs w HT h7
  · rw [if_neg h7] at h
    by_cases h3 : 3 < (behind (bare s)).size
    · exact LayB.parseMilli_far s hs w HT h7 h3
    · rw [if_neg h3] at h
      refine LayB.parseMilli_none s hs w HT h7 h3 fun v hv => ?_
      rw [hv] at h
      simp at h
theorem milliN_some {s : ByteArray} {m : Int} (h : milliN s = some m) : ¬ (ahead (bare s)).size > 7 ∧ ¬ (behind (bare s)).size > 3 ∧ ∃ n, Lib.atoiAll (digitsOf (bare s)).data.toList = .ok n ∧ m = (if (bare s).toList = s.toList then n else wrap64 (-n)) := by
  unfold milliN at h
  by_cases h7 : 7 < (ahead (bare s)).size
  · rw [if_pos h7] at h
    cases h
  · rw [if_neg h7] at h
    by_cases h3 : 3 < (behind (bare s)).size
    · rw [if_pos h3] at h
      cases h
    · rw [if_neg h3] at h
      refine ⟨h7, h3, ?_⟩
      rcases ha : Lib.atoiAll (digitsOf (bare s)).data.toList with n | _ | _
      · rw [ha] at h
        exact ⟨n, rfl, (Option.some.inj h).symm⟩
      · rw [ha] at h
        cases h
      · rw [ha] at h
        cases h
end Go.Proofs.YtbbnlagdahickaaGreatDoor
