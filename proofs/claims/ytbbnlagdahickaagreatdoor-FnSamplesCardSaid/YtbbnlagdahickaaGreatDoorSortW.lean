/- The walks of the library's stable sort at structs, over a variable program that bears the five functions: swapRange, rotate, symMerge. Conditions: those at each theorem. -/
import Derived.Test.YtbbnlagdahickaaGreatDoorProg
import Derived.Test.YtbbnlagdahickaaGreatDoorStable
import Derived.Shelf.SlSortCmp.KitK
import Derived.Shelf.SlGeneric
import Derived.Sort.WalkB2
import Derived.Sort.WalkB12
import Derived.Deep.LoopGhost
namespace Go.Proofs.YtbbnlagdahickaaGreatDoor.SortW
open Go.Shelf Go.RowKit Go.Lib Go.Sort Go.Proofs.YtbbnlagdahickaaGreatDoor.Stable Go.Proofs
set_option linter.unusedVariables false
/-- What the walks of the stable sort take of the program: the five functions' bodies, and of the types what the walk asks. -/
structure SL (P : Program) (k : Nat) : Prop where
  mixed : P.follows .mixedOrders = true
  f22 : P.funcs[22]? = some Tryz.f22
  f53 : P.funcs[53]? = some Tryz.f53
  f76 : P.funcs[76]? = some Tryz.f76
  f90 : P.funcs[90]? = some Tryz.f90
  f107 : P.funcs[107]? = some Tryz.f107
  t0 : P.underlying 0 = some (TypeDesc.tuple #[])
  a0 : ∀ w, (isAgg 0).run P w = .ok false w
  z0 : ∀ w, (Go.sizeOf 0).run P w = .ok 1 w
  v0 : ∀ w, (zeroValue 0).run P w = .ok (Value.tuple #[]) w
  t3 : P.underlying 3 = some (TypeDesc.int IntKind.i64)
  a3 : ∀ w, (isAgg 3).run P w = .ok false w
  z3 : ∀ w, (Go.sizeOf 3).run P w = .ok 1 w
  v3 : ∀ w, (zeroValue 3).run P w = .ok (Value.int IntKind.i64 0) w
  t4 : P.underlying 4 = some (TypeDesc.bool)
  a4 : ∀ w, (isAgg 4).run P w = .ok false w
  z4 : ∀ w, (Go.sizeOf 4).run P w = .ok 1 w
  v4 : ∀ w, (zeroValue 4).run P w = .ok (Value.bool false) w
  t24 : P.underlying 24 = some (TypeDesc.slice 35)
  a24 : ∀ w, (isAgg 24).run P w = .ok false w
  z24 : ∀ w, (Go.sizeOf 24).run P w = .ok 1 w
  v24 : ∀ w, (zeroValue 24).run P w = .ok (Value.slice none 0 0) w
  t47 : P.underlying 47 = some (TypeDesc.func #[35, 35] #[3] false)
  a47 : ∀ w, (isAgg 47).run P w = .ok false w
  z47 : ∀ w, (Go.sizeOf 47).run P w = .ok 1 w
  v47 : ∀ w, (zeroValue 47).run P w = .ok (Value.nilFunc) w
  t100 : P.underlying 100 = some (TypeDesc.int IntKind.u64)
  a100 : ∀ w, (isAgg 100).run P w = .ok false w
  z100 : ∀ w, (Go.sizeOf 100).run P w = .ok 1 w
  v100 : ∀ w, (zeroValue 100).run P w = .ok (Value.int IntKind.u64 0) w
  aE : ∀ w, (isAgg 35).run P w = .ok true w
  zE : ∀ w, (Go.sizeOf 35).run P w = .ok k w
theorem sl : SL Tryz.prog 4 where
  mixed := by kernel_rfl
  f22 := Tryz.func22
  f53 := Tryz.func53
  f76 := Tryz.func76
  f90 := Tryz.func90
  f107 := Tryz.func107
  t0 := Tryz.underlying0
  a0 := Tryz.isAgg0
  z0 := Tryz.sizeOf0
  v0 := Tryz.zeroValue0
  t3 := Tryz.underlying3
  a3 := Tryz.isAgg3
  z3 := Tryz.sizeOf3
  v3 := Tryz.zeroValue3
  t4 := Tryz.underlying4
  a4 := Tryz.isAgg4
  z4 := Tryz.sizeOf4
  v4 := Tryz.zeroValue4
  t24 := Tryz.underlying24
  a24 := Tryz.isAgg24
  z24 := Tryz.sizeOf24
  v24 := Tryz.zeroValue24
  t47 := Tryz.underlying47
  a47 := Tryz.isAgg47
  z47 := Tryz.sizeOf47
  v47 := Tryz.zeroValue47
  t100 := Tryz.underlying100
  a100 := Tryz.isAgg100
  z100 := Tryz.sizeOf100
  v100 := Tryz.zeroValue100
  aE := Tryz.isAgg35
  zE := Tryz.sizeOf35
variable {P : Program} {α : Type} [Inhabited α]

set_option maxHeartbeats 4000000 in
set_option maxRecDepth 1000000 in
/-- swapRangeCmpFunc. -/
theorem swapRange (k : Nat) (L : SL P k) (enc : α → List Value) (g : Nat) (cb : Array Value) (blk off cap a b n : Nat) (d0 d : Array α) (w0 w : World)
    (R : RowK enc k w0 blk off d0) (hs : d0.size = d.size) (S : SWK enc k w0 blk off d w) (ha : a + n ≤ d.size) (hb : b + n ≤ d.size) (hsz : d.size < 4611686018427387904) :
    Calls P 107 #[.slice (some ⟨blk, off, none⟩) d.size cap, .int .i64 a, .int .i64 b, .int .i64 n, .func (.func g) #[] cb] w fun e w' => e = .returned (.tuple #[]) ∧ SWK enc k w0 blk off (swRange a b n 0 d) w' := by
  have mixed := L.mixed; have t0 := L.t0; have a0 := L.a0; have z0 := L.z0; have v0 := L.v0; have t3 := L.t3; have a3 := L.a3; have z3 := L.z3; have v3 := L.v3; have t4 := L.t4; have a4 := L.a4; have z4 := L.z4; have v4 := L.v4; have t24 := L.t24; have a24 := L.a24; have z24 := L.z24; have v24 := L.v24; have t47 := L.t47; have a47 := L.a47; have z47 := L.z47; have v47 := L.v47; have aE := L.aE; have zE := L.zE
  have S0 : Aside (SWK enc k w0 blk off d w) := S
  clear S
  go_enter L.f107, Tryz.ntmps107
  go_wp2
  go_loopg [10] n (fun kx s10 wr => ∃ (i : Nat) (dk : Array α), s10 = .int .i64 i ∧ i ≤ n ∧ n - i ≤ kx ∧ dk.size = d.size ∧ Aside (SWK enc k w0 blk off dk wr) ∧ swRange a b n i dk = swRange a b n 0 d)
  case atStart => exact ⟨0, d, rfl, by omega, by omega, rfl, S0, rfl⟩
  case round =>
    clear S0
    obtain ⟨i, dk, rfl, h1, hkx, hds, S1, heq⟩ := hrel
    by_cases hlt : i < n
    · have hltz : (i : Int) < (n : Int) := by omega
      go_wp2_with fail
      have ea44 : ((a : Int) + (i : Int)).toNat = a + i := by omega
      have pa44 : (0 : Int) ≤ (a : Int) + (i : Int) := by omega
      have ba44 : (a : Int) + (i : Int) < (d.size : Int) := by omega
      have ra44 : IntKind.i64.wrap ((a : Int) + (i : Int)) = (a : Int) + (i : Int) := by rw [IntKind.wrap_i64]; omega
      have ec44 : ((b : Int) + (i : Int)).toNat = b + i := by omega
      have pc44 : (0 : Int) ≤ (b : Int) + (i : Int) := by omega
      have bc44 : (b : Int) + (i : Int) < (d.size : Int) := by omega
      have rc44 : IntKind.i64.wrap ((b : Int) + (i : Int)) = (b : Int) + (i : Int) := by rw [IntKind.wrap_i64]; omega
      have S2 : Aside (SWK enc k w0 blk off (swp dk (a + i) (b + i)) ((wr.drew.setCells blk (off + (a + i) * k) (enc dk[b + i]!)).setCells blk (off + (b + i) * k) (enc dk[a + i]!))) := S1.out.swapped R (a + i) (b + i) (by omega) (by omega)
      have l44a := S1.out.ld1 R (by omega) P (a + i) (by omega)
      have l44b := S1.out.ld1 R (by omega) P (b + i) (by omega)
      have s44a := S1.out.st1 R (by omega) P (a + i) (by omega) dk[b + i]!
      have s44b := S1.out.st2 R (by omega) P (a + i) (b + i) (by omega) (by omega) dk[b + i]! dk[a + i]!
      have n44a : (enc dk[a + i]!).length = k := R.hk _
      have n44b : (enc dk[b + i]!).length = k := R.hk _
      generalize enc dk[a + i]! = cI44 at S2 l44a s44b n44a
      generalize enc dk[b + i]! = cJ44 at S2 l44b s44a s44b n44b
      clear S1
      go_big_region_o
      clear l44a l44b s44a s44b
      generalize (wr.drew.setCells blk (off + (a + i) * k) cJ44).setCells blk (off + (b + i) * k) cI44 = w2 at S2 ⊢
      go_wp2
      go_roundg (n - (i + 1))
      case measure => omega
      case rel =>
        rw [swRange, if_pos hlt] at heq
        exact ⟨i + 1, swp dk (a + i) (b + i), by go_num, by omega, Nat.le_refl _, by rw [size_swp]; exact hds, S2, heq⟩
    · have hltz : ¬ (i : Int) < (n : Int) := by omega
      go_wp2
      go_end0
      refine ⟨rfl, ?_⟩
      rw [swRange, if_neg hlt] at heq
      rw [← heq]
      exact S1.out

set_option maxHeartbeats 4000000 in
set_option maxRecDepth 1000000 in
/-- rotateCmpFunc. -/
theorem rotate (k : Nat) (L : SL P k) (enc : α → List Value) (g : Nat) (cb : Array Value) (blk off cap a m b : Nat) (d0 d : Array α) (w0 w : World)
    (R : RowK enc k w0 blk off d0) (hs : d0.size = d.size) (S : SWK enc k w0 blk off d w) (ham : a < m) (hmb : m < b) (hb : b ≤ d.size) (hsz : d.size < 4611686018427387904) :
    Calls P 90 #[.slice (some ⟨blk, off, none⟩) d.size cap, .int .i64 a, .int .i64 m, .int .i64 b, .func (.func g) #[] cb] w fun e w' => e = .returned (.tuple #[]) ∧ SWK enc k w0 blk off (rot m (m - a) (b - m) d) w' := by
  have mixed := L.mixed; have t0 := L.t0; have a0 := L.a0; have z0 := L.z0; have v0 := L.v0; have t3 := L.t3; have a3 := L.a3; have z3 := L.z3; have v3 := L.v3; have t4 := L.t4; have a4 := L.a4; have z4 := L.z4; have v4 := L.v4; have t24 := L.t24; have a24 := L.a24; have z24 := L.z24; have v24 := L.v24; have t47 := L.t47; have a47 := L.a47; have z47 := L.z47; have v47 := L.v47; have aE := L.aE; have zE := L.zE
  have e107 : ∀ args w, (callFunc 107 args).run P w = .ok (.enter 107 args) w := enters_of L.f107 (by kernel_rfl) rfl
  have SR := fun (x y n : Nat) (dk : Array α) (W : World) (hk : dk.size = d.size) (SK : SWK enc k w0 blk off dk W) (h1 : x + n ≤ d.size) (h2 : y + n ≤ d.size) => by
    have h := swapRange k L enc g cb blk off cap x y n d0 dk w0 W R (by omega) SK (by omega) (by omega) (by omega)
    rw [hk] at h
    exact h
  have S0 : Aside (SWK enc k w0 blk off d w) := S
  clear S
  have i0 : (m : Int) - (a : Int) = ((m - a : Nat) : Int) := by omega
  have j0 : (b : Int) - (m : Int) = ((b - m : Nat) : Int) := by omega
  go_enter L.f90, Tryz.ntmps90
  go_wp2
  go_loopg [10, 11] (b - a) (fun kx s10 s11 wr => ∃ (i j : Nat) (dk : Array α), s10 = .int .i64 i ∧ s11 = .int .i64 j ∧ 0 < i ∧ 0 < j ∧ i ≤ m ∧ m + j ≤ d.size ∧ i + j ≤ kx ∧ dk.size = d.size ∧ Aside (SWK enc k w0 blk off dk wr) ∧ rot m i j dk = rot m (m - a) (b - m) d)
  case atStart => exact ⟨m - a, b - m, d, by go_num, by go_num, by omega, by omega, by omega, by omega, by omega, rfl, S0, rfl⟩
  case round =>
    clear S0
    obtain ⟨i, j, dk, rfl, rfl, hi, hj, him, hjm, hkx, hds, S1, heq⟩ := hrel
    rw [rot, dif_neg (by omega)] at heq
    by_cases hij : i = j
    · subst hij
      rw [if_pos rfl] at heq
      have ez : (m : Int) - (i : Int) = ((m - i : Nat) : Int) := by omega
      go_wp2_with (go_at_fn 107; refine (SR (m - i) m i dk _ hds S1.out (by omega) (by omega)).mono ?_; rintro e w' ⟨rfl, S2⟩)
      go_end0
      rw [← heq]
      exact ⟨rfl, S2⟩
    · rw [if_neg hij] at heq
      have hijz : ¬ (i : Int) = (j : Int) := by omega
      by_cases hlt : j < i
      · rw [if_pos hlt] at heq
        have hltz : (j : Int) < (i : Int) := by omega
        have ez : (m : Int) - (i : Int) = ((m - i : Nat) : Int) := by omega
        go_wp2_with (go_at_fn 107; refine (SR (m - i) m j dk _ hds S1.out (by omega) (by omega)).mono ?_; rintro e w' ⟨rfl, S2⟩)
        go_roundg (i - j + j)
        case measure => omega
        case rel => exact ⟨i - j, j, _, by go_num, rfl, by omega, hj, by omega, hjm, by omega, by rw [(swRange_ok (m - i) m j (by omega) j 0 dk (by omega) (by omega) (by omega)).1]; exact hds, S2, heq⟩
      · rw [if_neg hlt] at heq
        have hltz : ¬ (j : Int) < (i : Int) := by omega
        have ez : (m : Int) - (i : Int) = ((m - i : Nat) : Int) := by omega
        have ez2 : (m : Int) + (j : Int) - (i : Int) = ((m + j - i : Nat) : Int) := by omega
        go_wp2_with (go_at_fn 107; refine (SR (m - i) (m + j - i) i dk _ hds S1.out (by omega) (by omega)).mono ?_; rintro e w' ⟨rfl, S2⟩)
        go_roundg (i + (j - i))
        case measure => omega
        case rel => exact ⟨i, j - i, _, rfl, by go_num, hi, by omega, him, by omega, by omega, by rw [(swRange_ok (m - i) (m + j - i) i (by omega) i 0 dk (by omega) (by omega) (by omega)).1]; exact hds, S2, heq⟩

set_option maxHeartbeats 4000000 in
set_option maxRecDepth 1000000 in
/-- symMergeCmpFunc where the left part has one element. -/
theorem sym_up (k : Nat) (L : SL P k) (enc : α → List Value) (cf : α → α → Int) (g : Nat) (cb : Array Value) (blk off cap : Nat) (d0 : Array α) (w0 : World)
    (eg : ∀ args w, (callFunc g args).run P w = .ok (.enter g args) w) (hcmp : CmpLays P g cb enc k cf blk off d0.size w0) (R : RowK enc k w0 blk off d0) (hsz : d0.size < 1000000000000)
    (d : Array α) (a m b : Nat) (w : World) (hs : d0.size = d.size) (S : SWK enc k w0 blk off d w) (h1 : m - a = 1) (h2 : m < b) (h3 : b ≤ d.size) :
    Calls P 76 #[.slice (some ⟨blk, off, none⟩) d.size cap, .int .i64 a, .int .i64 m, .int .i64 b, .func (.func g) #[] cb] w fun e w' => e = .returned (.tuple #[]) ∧ SWK enc k w0 blk off (upLoop (bsearch (fun h => ltOf cf d[h]! d[a]!) m b) a d) w' := by
  have mixed := L.mixed; have t0 := L.t0; have a0 := L.a0; have z0 := L.z0; have v0 := L.v0; have t3 := L.t3; have a3 := L.a3; have z3 := L.z3; have v3 := L.v3; have t4 := L.t4; have a4 := L.a4; have z4 := L.z4; have v4 := L.v4; have t24 := L.t24; have a24 := L.a24; have z24 := L.z24; have v24 := L.v24; have t47 := L.t47; have a47 := L.a47; have z47 := L.z47; have v47 := L.v47; have aE := L.aE; have zE := L.zE; have t100 := L.t100; have a100 := L.a100; have z100 := L.z100; have v100 := L.v100
  have HC : Aside _ := hcmp
  have S0 : Aside (SWK enc k w0 blk off d w) := S
  clear hcmp S
  have c1z : (m : Int) - (a : Int) = 1 := by omega
  obtain ⟨re, hre⟩ : ∃ r, r = bsearch (fun h => ltOf cf d[h]! d[a]!) m b := ⟨_, rfl⟩
  rw [← hre]
  have HRE : Hid (re = bsearch (fun h => ltOf cf d[h]! d[a]!) m b) := hre
  clear hre
  go_enter L.f76, Tryz.ntmps76
  go_wp2
  go_loopg [10, 11] (b - m) (fun kx s10 s11 wr => ∃ (i j : Nat), s10 = .int .i64 i ∧ s11 = .int .i64 j ∧ m ≤ i ∧ i ≤ j ∧ j ≤ b ∧ j - i ≤ kx ∧ Aside (SWK enc k w0 blk off d wr) ∧ Hid (bsearch (fun h => ltOf cf d[h]! d[a]!) i j = re))
  case atStart => exact ⟨m, b, rfl, rfl, by omega, by omega, by omega, Nat.le_refl _, S0, HRE.out.symm⟩
  case round =>
    clear S0
    obtain ⟨i, j, rfl, rfl, him, hij, hjb, hkx, S1, HE⟩ := hrel
    by_cases hlt : i < j
    · have hltz : (i : Int) < (j : Int) := by omega
      have HE2 := HE.out
      rw [bsearch, if_pos hlt] at HE2
      obtain ⟨h, hh⟩ : ∃ h, h = (i + j) / 2 := ⟨_, rfl⟩
      rw [← hh] at HE2
      have eh : ((i : Int) + (j : Int)) / 2 = (h : Int) := by omega
      have hb1 : i ≤ h ∧ h < j := by omega
      clear hh HE
      have hhz : (h : Int) < (d.size : Int) := by omega
      have haz : (a : Int) < (d.size : Int) := by omega
      cases hL : ltOf cf d[h]! d[a]! with
      | true =>
        rw [if_pos hL] at HE2
        have HE3 : Hid _ := HE2
        clear HE2
        obtain ⟨x1, hx1⟩ : ∃ x, x = d[h]! := ⟨_, rfl⟩
        obtain ⟨y1, hy1⟩ : ∃ x, x = d[a]! := ⟨_, rfl⟩
        have l1a := S1.out.ld R (by omega) P h (by omega)
        have l1b := S1.out.ld R (by omega) P a (by omega)
        rw [← hx1] at l1a
        rw [← hy1] at l1b
        have hc1 := S1.out.cmp HC.out (by omega) x1 y1
        have hv1 : cf x1 y1 < 0 := by rw [hx1, hy1]; exact of_decide_eq_true hL
        have hd1 : decide (cf x1 y1 < 0) = true := decide_eq_true hv1
        clear hx1 hy1
        go_wp2_with fail
        go_quiet_grown (first | (go_at_fn g; refine Calls.grown_of (hc1 _ _)))
        have S2 : Aside (SWK enc k w0 blk off d (grow (wr.drewN nq) osq)) := S1.out.grown nq osq
        clear l1a l1b hc1 S1
        generalize grow (wr.drewN nq) osq = w2 at S2 ⊢
        clear nq osq
        go_wp2
        go_roundg (j - (h + 1))
        case measure => omega
        case rel => exact ⟨h + 1, j, by go_num, rfl, by omega, by omega, hjb, Nat.le_refl _, S2, HE3⟩
      | false =>
        rw [if_neg (by rw [hL]; simp)] at HE2
        have HE3 : Hid _ := HE2
        clear HE2
        obtain ⟨x2, hx2⟩ : ∃ x, x = d[h]! := ⟨_, rfl⟩
        obtain ⟨y2, hy2⟩ : ∃ x, x = d[a]! := ⟨_, rfl⟩
        have l2a := S1.out.ld R (by omega) P h (by omega)
        have l2b := S1.out.ld R (by omega) P a (by omega)
        rw [← hx2] at l2a
        rw [← hy2] at l2b
        have hc2 := S1.out.cmp HC.out (by omega) x2 y2
        have hv2 : ¬ cf x2 y2 < 0 := by rw [hx2, hy2]; exact of_decide_eq_false hL
        have hd2 : decide (cf x2 y2 < 0) = false := decide_eq_false hv2
        clear hx2 hy2
        go_wp2_with fail
        go_quiet_grown (first | (go_at_fn g; refine Calls.grown_of (hc2 _ _)))
        have S2 : Aside (SWK enc k w0 blk off d (grow (wr.drewN nq) osq)) := S1.out.grown nq osq
        clear l2a l2b hc2 S1
        generalize grow (wr.drewN nq) osq = w2 at S2 ⊢
        clear nq osq
        go_wp2
        go_roundg (h - i)
        case measure => omega
        case rel => exact ⟨i, h, rfl, rfl, by omega, by omega, by omega, Nat.le_refl _, S2, HE3⟩
    · have hltz : ¬ (i : Int) < (j : Int) := by omega
      have HE2 := HE.out
      rw [bsearch, if_neg hlt] at HE2
      subst HE2
      clear HE HRE
      have hi1 : (i : Int) - 1 = ((i - 1 : Nat) : Int) := by omega
      go_wp2
      go_loopg [13] (i - a) (fun kx s13 wr => ∃ (q : Nat) (dk : Array α), s13 = .int .i64 q ∧ a ≤ q ∧ q < i ∧ i - q ≤ kx ∧ dk.size = d.size ∧ Aside (SWK enc k w0 blk off dk wr) ∧ Hid (upLoop i q dk = upLoop i a d))
      case atStart => exact ⟨a, d, rfl, by omega, by omega, Nat.le_refl _, rfl, S1, rfl⟩
      case round =>
        clear S1
        obtain ⟨q, dk, rfl, hq1, hq2, hkx2, hds, S1, HU⟩ := hrel
        have HU2 := HU.out
        rw [upLoop] at HU2
        clear HU
        by_cases hlt2 : q + 1 < i
        · rw [if_pos hlt2] at HU2
          have HU3 : Hid _ := HU2
          clear HU2
          have hlt2z : (q : Int) < ((i - 1 : Nat) : Int) := by omega
          obtain ⟨r, hr⟩ : ∃ r, q + 1 = r := ⟨_, rfl⟩
          have er : (q : Int) + 1 = (r : Int) := by omega
          have rr : IntKind.i64.wrap (r : Int) = (r : Int) := by rw [IntKind.wrap_i64]; omega
          rw [hr] at HU3
          have hqz : (q : Int) < (d.size : Int) := by omega
          have hrz : (r : Int) < (d.size : Int) := by omega
          have S2 : Aside (SWK enc k w0 blk off (swp dk q r) ((wr.drew.setCells blk (off + q * k) (enc dk[r]!)).setCells blk (off + r * k) (enc dk[q]!))) := S1.out.swapped R q r (by omega) (by omega)
          have l3a := S1.out.ld1 R (by omega) P q (by omega)
          have l3b := S1.out.ld1 R (by omega) P r (by omega)
          have s3a := S1.out.st1 R (by omega) P q (by omega) dk[r]!
          have s3b := S1.out.st2 R (by omega) P q r (by omega) (by omega) dk[r]! dk[q]!
          have n3a : (enc dk[q]!).length = k := R.hk _
          have n3b : (enc dk[r]!).length = k := R.hk _
          generalize enc dk[q]! = cI3 at S2 l3a s3b n3a
          generalize enc dk[r]! = cJ3 at S2 l3b s3a s3b n3b
          clear S1
          go_wp2_with fail
          go_big_region_o
          clear l3a l3b s3a s3b
          generalize (wr.drew.setCells blk (off + q * k) cJ3).setCells blk (off + r * k) cI3 = w2 at S2 ⊢
          go_wp2
          go_roundg (i - r)
          case measure => omega
          case rel => exact ⟨r, _, rfl, by omega, by omega, Nat.le_refl _, by rw [size_swp]; exact hds, S2, HU3⟩
        · rw [if_neg hlt2] at HU2
          have hlt2z : ¬ (q : Int) < ((i - 1 : Nat) : Int) := by omega
          go_wp2
          (try simp only [Exit.inBlock, Exit.then]); refine bodyPost_ret (results_none rfl _ _ _) rfl ?_
          exact ⟨rfl, by rw [← HU2]; exact S1.out⟩

set_option maxHeartbeats 4000000 in
set_option maxRecDepth 1000000 in
/-- symMergeCmpFunc where the right part has one element (and the left one more than one). -/
theorem sym_down (k : Nat) (L : SL P k) (enc : α → List Value) (cf : α → α → Int) (g : Nat) (cb : Array Value) (blk off cap : Nat) (d0 : Array α) (w0 : World)
    (eg : ∀ args w, (callFunc g args).run P w = .ok (.enter g args) w) (hcmp : CmpLays P g cb enc k cf blk off d0.size w0) (R : RowK enc k w0 blk off d0) (hsz : d0.size < 1000000000000)
    (d : Array α) (a m b : Nat) (w : World) (hs : d0.size = d.size) (S : SWK enc k w0 blk off d w) (h0 : a < m) (h00 : ¬ m - a = 1) (h1 : b - m = 1) (h3 : b ≤ d.size) :
    Calls P 76 #[.slice (some ⟨blk, off, none⟩) d.size cap, .int .i64 a, .int .i64 m, .int .i64 b, .func (.func g) #[] cb] w fun e w' => e = .returned (.tuple #[]) ∧ SWK enc k w0 blk off (downLoop (bsearch (fun h => !ltOf cf d[m]! d[h]!) a m) m d) w' := by
  have mixed := L.mixed; have t0 := L.t0; have a0 := L.a0; have z0 := L.z0; have v0 := L.v0; have t3 := L.t3; have a3 := L.a3; have z3 := L.z3; have v3 := L.v3; have t4 := L.t4; have a4 := L.a4; have z4 := L.z4; have v4 := L.v4; have t24 := L.t24; have a24 := L.a24; have z24 := L.z24; have v24 := L.v24; have t47 := L.t47; have a47 := L.a47; have z47 := L.z47; have v47 := L.v47; have aE := L.aE; have zE := L.zE; have t100 := L.t100; have a100 := L.a100; have z100 := L.z100; have v100 := L.v100
  have HC : Aside _ := hcmp
  have S0 : Aside (SWK enc k w0 blk off d w) := S
  clear hcmp S
  have c0z : ((m : Int) - (a : Int) == 1) = false := beq_eq_false_iff_ne.2 (by omega)
  have c1z : (b : Int) - (m : Int) = 1 := by omega
  obtain ⟨re, hre⟩ : ∃ r, r = bsearch (fun h => !ltOf cf d[m]! d[h]!) a m := ⟨_, rfl⟩
  rw [← hre]
  have HRE : Hid (re = bsearch (fun h => !ltOf cf d[m]! d[h]!) a m) := hre
  clear hre
  go_enter L.f76, Tryz.ntmps76
  go_wp2
  go_loopg [14, 15] (m - a) (fun kx s14 s15 wr => ∃ (i j : Nat), s14 = .int .i64 i ∧ s15 = .int .i64 j ∧ a ≤ i ∧ i ≤ j ∧ j ≤ m ∧ j - i ≤ kx ∧ Aside (SWK enc k w0 blk off d wr) ∧ Hid (bsearch (fun h => !ltOf cf d[m]! d[h]!) i j = re))
  case atStart => exact ⟨a, m, rfl, rfl, by omega, by omega, by omega, Nat.le_refl _, S0, HRE.out.symm⟩
  case round =>
    clear S0
    obtain ⟨i, j, rfl, rfl, him, hij, hjb, hkx, S1, HE⟩ := hrel
    by_cases hlt : i < j
    · have hltz : (i : Int) < (j : Int) := by omega
      have HE2 := HE.out
      rw [bsearch, if_pos hlt] at HE2
      obtain ⟨h, hh⟩ : ∃ h, h = (i + j) / 2 := ⟨_, rfl⟩
      rw [← hh] at HE2
      have eh : ((i : Int) + (j : Int)) / 2 = (h : Int) := by omega
      have hb1 : i ≤ h ∧ h < j := by omega
      clear hh HE
      have hhz : (h : Int) < (d.size : Int) := by omega
      have haz : (m : Int) < (d.size : Int) := by omega
      cases hL : ltOf cf d[m]! d[h]! with
      | true =>
        rw [if_neg (by rw [hL]; simp)] at HE2
        have HE3 : Hid _ := HE2
        clear HE2
        obtain ⟨x1, hx1⟩ : ∃ x, x = d[m]! := ⟨_, rfl⟩
        obtain ⟨y1, hy1⟩ : ∃ x, x = d[h]! := ⟨_, rfl⟩
        have l1a := S1.out.ld R (by omega) P m (by omega)
        have l1b := S1.out.ld R (by omega) P h (by omega)
        rw [← hx1] at l1a
        rw [← hy1] at l1b
        have hc1 := S1.out.cmp HC.out (by omega) x1 y1
        have hv1 : cf x1 y1 < 0 := by rw [hx1, hy1]; exact of_decide_eq_true hL
        have hd1 : decide (cf x1 y1 < 0) = true := decide_eq_true hv1
        clear hx1 hy1
        go_wp2_with fail
        go_quiet_grown (first | (go_at_fn g; refine Calls.grown_of (hc1 _ _)))
        have S2 : Aside (SWK enc k w0 blk off d (grow (wr.drewN nq) osq)) := S1.out.grown nq osq
        clear l1a l1b hc1 S1
        generalize grow (wr.drewN nq) osq = w2 at S2 ⊢
        clear nq osq
        go_wp2
        go_roundg (h - i)
        case measure => omega
        case rel => exact ⟨i, h, rfl, rfl, by omega, by omega, by omega, Nat.le_refl _, S2, HE3⟩
      | false =>
        rw [if_pos (by rw [hL]; rfl)] at HE2
        have HE3 : Hid _ := HE2
        clear HE2
        obtain ⟨x2, hx2⟩ : ∃ x, x = d[m]! := ⟨_, rfl⟩
        obtain ⟨y2, hy2⟩ : ∃ x, x = d[h]! := ⟨_, rfl⟩
        have l2a := S1.out.ld R (by omega) P m (by omega)
        have l2b := S1.out.ld R (by omega) P h (by omega)
        rw [← hx2] at l2a
        rw [← hy2] at l2b
        have hc2 := S1.out.cmp HC.out (by omega) x2 y2
        have hv2 : ¬ cf x2 y2 < 0 := by rw [hx2, hy2]; exact of_decide_eq_false hL
        have hd2 : decide (cf x2 y2 < 0) = false := decide_eq_false hv2
        clear hx2 hy2
        go_wp2_with fail
        go_quiet_grown (first | (go_at_fn g; refine Calls.grown_of (hc2 _ _)))
        have S2 : Aside (SWK enc k w0 blk off d (grow (wr.drewN nq) osq)) := S1.out.grown nq osq
        clear l2a l2b hc2 S1
        generalize grow (wr.drewN nq) osq = w2 at S2 ⊢
        clear nq osq
        go_wp2
        go_roundg (j - (h + 1))
        case measure => omega
        case rel => exact ⟨h + 1, j, by go_num, rfl, by omega, by omega, hjb, Nat.le_refl _, S2, HE3⟩
    · have hltz : ¬ (i : Int) < (j : Int) := by omega
      have HE2 := HE.out
      rw [bsearch, if_neg hlt] at HE2
      subst HE2
      clear HE HRE
      go_wp2
      go_loopg [17] (m - i) (fun kx s17 wr => ∃ (q : Nat) (dk : Array α), s17 = .int .i64 q ∧ i ≤ q ∧ q ≤ m ∧ q - i ≤ kx ∧ dk.size = d.size ∧ Aside (SWK enc k w0 blk off dk wr) ∧ Hid (downLoop i q dk = downLoop i m d))
      case atStart => exact ⟨m, d, rfl, by omega, by omega, Nat.le_refl _, rfl, S1, rfl⟩
      case round =>
        clear S1
        obtain ⟨q, dk, rfl, hq1, hq2, hkx2, hds, S1, HU⟩ := hrel
        by_cases hlt2 : i < q
        · obtain ⟨r, hr⟩ : ∃ r, r + 1 = q := ⟨q - 1, by omega⟩
          have HU2 := HU.out
          rw [← hr, downLoop, if_pos (by omega), hr] at HU2
          clear HU
          have HU3 : Hid _ := HU2
          clear HU2
          have hlt2z : (i : Int) < (q : Int) := by omega
          have er : (q : Int) - 1 = (r : Int) := by omega
          have hqr : r < q ∧ i ≤ r ∧ q ≤ r + 1 := by omega
          clear hr
          have rr : IntKind.i64.wrap (r : Int) = (r : Int) := by rw [IntKind.wrap_i64]; omega
          have hqz : (q : Int) < (d.size : Int) := by omega
          have hrz : (r : Int) < (d.size : Int) := by omega
          have S2 : Aside (SWK enc k w0 blk off (swp dk q r) ((wr.drew.setCells blk (off + q * k) (enc dk[r]!)).setCells blk (off + r * k) (enc dk[q]!))) := S1.out.swapped R q r (by omega) (by omega)
          have l3a := S1.out.ld1 R (by omega) P q (by omega)
          have l3b := S1.out.ld1 R (by omega) P r (by omega)
          have s3a := S1.out.st1 R (by omega) P q (by omega) dk[r]!
          have s3b := S1.out.st2 R (by omega) P q r (by omega) (by omega) dk[r]! dk[q]!
          have n3a : (enc dk[q]!).length = k := R.hk _
          have n3b : (enc dk[r]!).length = k := R.hk _
          generalize enc dk[q]! = cI3 at S2 l3a s3b n3a
          generalize enc dk[r]! = cJ3 at S2 l3b s3a s3b n3b
          clear S1
          go_wp2_with fail
          go_big_region_o
          clear l3a l3b s3a s3b
          generalize (wr.drew.setCells blk (off + q * k) cJ3).setCells blk (off + r * k) cI3 = w2 at S2 ⊢
          go_wp2
          go_roundg (r - i)
          case measure => omega
          case rel => exact ⟨r, _, rfl, by omega, by omega, Nat.le_refl _, by rw [size_swp]; exact hds, S2, HU3⟩
        · obtain rfl : q = i := by omega
          have HU2 := HU.out
          have hstop : downLoop q q dk = dk := by
            cases q with
            | zero => rfl
            | succ q => rw [downLoop, if_neg hlt2]
          rw [hstop] at HU2
          clear HU hstop
          have hlt2z : ¬ (q : Int) < (q : Int) := by omega
          go_wp2
          (try simp only [Exit.inBlock, Exit.then]); refine bodyPost_ret (results_none rfl _ _ _) rfl ?_
          exact ⟨rfl, by rw [← HU2]; exact S1.out⟩

theorem symM_size (lt : α → α → Bool) : ∀ (f : Nat) (d : Array α) (a m b : Nat), (symM lt f d a m b).size = d.size := by
  have up : ∀ (e n k : Nat) (d : Array α), e - k ≤ n → (upLoop e k d).size = d.size := by
    intro e n
    induction n with
    | zero => intro k d h; rw [upLoop, if_neg (by omega)]
    | succ n ih =>
      intro k d h
      rw [upLoop]
      by_cases c : k + 1 < e
      · rw [if_pos c, ih _ _ (by omega), size_swp]
      · rw [if_neg c]
  have down : ∀ (i k : Nat) (d : Array α), (downLoop i k d).size = d.size := by
    intro i k
    induction k with
    | zero => intro d; rfl
    | succ k ih =>
      intro d
      rw [downLoop]
      by_cases c : i < k + 1
      · rw [if_pos c, ih, size_swp]
      · rw [if_neg c]
  have swr : ∀ (a b n r i : Nat) (d : Array α), n - i ≤ r → (swRange a b n i d).size = d.size := by
    intro a b n r
    induction r with
    | zero => intro i d h; rw [swRange, if_neg (by omega)]
    | succ r ih =>
      intro i d h
      rw [swRange]
      by_cases c : i < n
      · rw [if_pos c, ih _ _ (by omega), size_swp]
      · rw [if_neg c]
  have ro : ∀ (m n i j : Nat) (d : Array α), i + j ≤ n → (rot m i j d).size = d.size := by
    intro m n
    induction n with
    | zero => intro i j d h; rw [rot, dif_pos (by omega)]
    | succ n ih =>
      intro i j d h
      rw [rot]
      by_cases c : i = 0 ∨ j = 0
      · rw [dif_pos c]
      · rw [dif_neg c]
        by_cases c2 : i = j
        · rw [if_pos c2, swr _ _ _ _ _ _ (Nat.le_refl _)]
        · rw [if_neg c2]
          by_cases c3 : j < i
          · rw [if_pos c3, ih _ _ _ (by omega), swr _ _ _ _ _ _ (Nat.le_refl _)]
          · rw [if_neg c3, ih _ _ _ (by omega), swr _ _ _ _ _ _ (Nat.le_refl _)]
  intro f
  induction f with
  | zero => intro d a m b; rw [symM]
  | succ f ih =>
    intro d a m b
    rw [symM]
    by_cases c1 : m - a = 1
    · rw [if_pos c1, up _ _ _ _ (Nat.le_refl _)]
    · rw [if_neg c1]
      by_cases c2 : b - m = 1
      · rw [if_pos c2, down]
      · rw [if_neg c2]
        unfold symM.symHalves
        simp only []
        repeat' split
        all_goals simp only [ih, ro _ _ _ _ _ (Nat.le_refl _)]

set_option maxHeartbeats 8000000 in
set_option maxRecDepth 1000000 in
/-- symMergeCmpFunc. -/
theorem symMerge (k : Nat) (L : SL P k) (enc : α → List Value) (cf : α → α → Int) (g : Nat) (cb : Array Value) (blk off cap : Nat) (d0 : Array α) (w0 : World)
    (eg : ∀ args w, (callFunc g args).run P w = .ok (.enter g args) w) (hcmp : CmpLays P g cb enc k cf blk off d0.size w0) (R : RowK enc k w0 blk off d0) (hsz : d0.size < 1000000000000) (f : Nat) :
    ∀ (d : Array α) (a m b : Nat) (w : World), d0.size = d.size → SWK enc k w0 blk off d w → a < m → m < b → b ≤ d.size → b - a ≤ f →
    Calls P 76 #[.slice (some ⟨blk, off, none⟩) d.size cap, .int .i64 a, .int .i64 m, .int .i64 b, .func (.func g) #[] cb] w fun e w' => e = .returned (.tuple #[]) ∧ SWK enc k w0 blk off (symM (ltOf cf) f d a m b) w' := by
  induction f with
  | zero => intro d a m b w _ _ _ _ _ _; omega
  | succ f ih =>
    intro d a m b w hs S hxa hxb h3 hf
    by_cases h1 : m - a = 1
    · rw [symM, if_pos h1]
      exact sym_up k L enc cf g cb blk off cap d0 w0 eg hcmp R hsz d a m b w hs S h1 hxb h3
    · by_cases h2 : b - m = 1
      · rw [symM, if_neg h1, if_pos h2]
        exact sym_down k L enc cf g cb blk off cap d0 w0 eg hcmp R hsz d a m b w hs S hxa h1 h2 h3
      · obtain ⟨res, hres⟩ : ∃ r, r = symM (ltOf cf) (f + 1) d a m b := ⟨_, rfl⟩
        rw [← hres]
        rw [symM, if_neg h1, if_neg h2] at hres
        have e90 : ∀ args w, (callFunc 90 args).run P w = .ok (.enter 90 args) w := enters_of L.f90 (by kernel_rfl) rfl
        have e76 : ∀ args w, (callFunc 76 args).run P w = .ok (.enter 76 args) w := enters_of L.f76 (by kernel_rfl) rfl
        have mixed := L.mixed; have t0 := L.t0; have a0 := L.a0; have z0 := L.z0; have v0 := L.v0; have t3 := L.t3; have a3 := L.a3; have z3 := L.z3; have v3 := L.v3; have t4 := L.t4; have a4 := L.a4; have z4 := L.z4; have v4 := L.v4; have t24 := L.t24; have a24 := L.a24; have z24 := L.z24; have v24 := L.v24; have t47 := L.t47; have a47 := L.a47; have z47 := L.z47; have v47 := L.v47; have aE := L.aE; have zE := L.zE; have t100 := L.t100; have a100 := L.a100; have z100 := L.z100; have v100 := L.v100
        have HC : Aside _ := hcmp
        have S0 : Aside (SWK enc k w0 blk off d w) := S
        clear hcmp S
        have c1z : ((m : Int) - (a : Int) == 1) = false := beq_eq_false_iff_ne.2 (by omega)
        have c2z : ((b : Int) - (m : Int) == 1) = false := beq_eq_false_iff_ne.2 (by omega)
        obtain ⟨mid, hmid⟩ : ∃ x, (a + b) / 2 = x := ⟨_, rfl⟩
        obtain ⟨n, hn⟩ : ∃ x, mid + m = x := ⟨_, rfl⟩
        obtain ⟨p, hp⟩ : ∃ x, mid + m - 1 = x := ⟨_, rfl⟩
        rw [hmid, hp] at hres
        have emid : ((a : Int) + (b : Int)) / 2 = (mid : Int) := by omega
        have en : (mid : Int) + (m : Int) = (n : Int) := by omega
        have ep : (n : Int) - 1 = (p : Int) := by omega
        have hb0 : a < mid ∧ mid < b ∧ p + 1 = n ∧ mid + m = n ∧ 2 * mid ≤ a + b ∧ a + b ≤ 2 * mid + 1 := by omega
        by_cases hmm : mid < m
        · have zm : (mid : Int) < (m : Int) := by omega
          obtain ⟨lo, hlo⟩ : ∃ x, mid + m - b = x := ⟨_, rfl⟩
          have elo : (n : Int) - (b : Int) = (lo : Int) := by omega
          rw [if_pos hmm, if_pos hmm, hlo] at hres
          have hlb : a ≤ lo ∧ lo ≤ mid ∧ lo + b = n := by omega
          clear hlo
          obtain ⟨re, hre⟩ : ∃ r, r = bsearch (fun c => !ltOf cf d[p - c]! d[c]!) lo mid := ⟨_, rfl⟩
          rw [← hre] at hres
          have HRE : Hid (re = bsearch (fun c => !ltOf cf d[p - c]! d[c]!) lo mid) := hre
          have HRES : Hid _ := hres
          clear hre hres
          go_enter L.f76, Tryz.ntmps76
          go_wp2
          go_loopg [20, 21] (mid - lo) (fun kx s20 s21 wr => ∃ (i j : Nat), s20 = .int .i64 i ∧ s21 = .int .i64 j ∧ lo ≤ i ∧ i ≤ j ∧ j ≤ mid ∧ j - i ≤ kx ∧ Aside (SWK enc k w0 blk off d wr) ∧ Hid (bsearch (fun c => !ltOf cf d[p - c]! d[c]!) i j = re))
          case atStart => exact ⟨lo, mid, rfl, rfl, by omega, by omega, by omega, Nat.le_refl _, S0, HRE.out.symm⟩
          case round =>
            clear S0
            obtain ⟨i, j, rfl, rfl, him, hij, hjb, hkx, S1, HE⟩ := hrel
            by_cases hlt : i < j
            · have hltz : (i : Int) < (j : Int) := by omega
              have HE2 := HE.out
              rw [bsearch, if_pos hlt] at HE2
              obtain ⟨h, hh⟩ : ∃ h, h = (i + j) / 2 := ⟨_, rfl⟩
              rw [← hh] at HE2
              have eh : ((i : Int) + (j : Int)) / 2 = (h : Int) := by omega
              have hb1 : i ≤ h ∧ h < j := by omega
              clear hh HE
              obtain ⟨q, hq⟩ : ∃ q, p - h = q := ⟨_, rfl⟩
              rw [hq] at HE2
              have eq : (p : Int) - (h : Int) = (q : Int) := by omega
              have hqb : q < d.size ∧ q + h = p := by omega
              clear hq
              have rq : IntKind.i64.wrap (q : Int) = (q : Int) := by rw [IntKind.wrap_i64]; omega
              have hqz : (q : Int) < (d.size : Int) := by omega
              have hhz : (h : Int) < (d.size : Int) := by omega
              cases hL : ltOf cf d[q]! d[h]! with
              | true =>
                rw [if_neg (by rw [hL]; simp)] at HE2
                have HE3 : Hid _ := HE2
                clear HE2
                obtain ⟨x1, hx1⟩ : ∃ x, x = d[q]! := ⟨_, rfl⟩
                obtain ⟨y1, hy1⟩ : ∃ x, x = d[h]! := ⟨_, rfl⟩
                have l1a := S1.out.ld R (by omega) P q (by omega)
                have l1b := S1.out.ld R (by omega) P h (by omega)
                rw [← hx1] at l1a
                rw [← hy1] at l1b
                have hc1 := S1.out.cmp HC.out (by omega) x1 y1
                have hv1 : cf x1 y1 < 0 := by rw [hx1, hy1]; exact of_decide_eq_true hL
                have hd1 : decide (cf x1 y1 < 0) = true := decide_eq_true hv1
                clear hx1 hy1
                go_wp2_with fail
                go_quiet_grown (first | (go_at_fn g; refine Calls.grown_of (hc1 _ _)))
                have S2 : Aside (SWK enc k w0 blk off d (grow (wr.drewN nq) osq)) := S1.out.grown nq osq
                clear l1a l1b hc1 S1
                generalize grow (wr.drewN nq) osq = w2 at S2 ⊢
                clear nq osq
                go_wp2
                go_roundg (h - i)
                case measure => omega
                case rel => exact ⟨i, h, rfl, rfl, by omega, by omega, by omega, Nat.le_refl _, S2, HE3⟩
              | false =>
                rw [if_pos (by rw [hL]; rfl)] at HE2
                have HE3 : Hid _ := HE2
                clear HE2
                obtain ⟨x2, hx2⟩ : ∃ x, x = d[q]! := ⟨_, rfl⟩
                obtain ⟨y2, hy2⟩ : ∃ x, x = d[h]! := ⟨_, rfl⟩
                have l2a := S1.out.ld R (by omega) P q (by omega)
                have l2b := S1.out.ld R (by omega) P h (by omega)
                rw [← hx2] at l2a
                rw [← hy2] at l2b
                have hc2 := S1.out.cmp HC.out (by omega) x2 y2
                have hv2 : ¬ cf x2 y2 < 0 := by rw [hx2, hy2]; exact of_decide_eq_false hL
                have hd2 : decide (cf x2 y2 < 0) = false := decide_eq_false hv2
                clear hx2 hy2
                go_wp2_with fail
                go_quiet_grown (first | (go_at_fn g; refine Calls.grown_of (hc2 _ _)))
                have S2 : Aside (SWK enc k w0 blk off d (grow (wr.drewN nq) osq)) := S1.out.grown nq osq
                clear l2a l2b hc2 S1
                generalize grow (wr.drewN nq) osq = w2 at S2 ⊢
                clear nq osq
                go_wp2
                go_roundg (j - (h + 1))
                case measure => omega
                case rel => exact ⟨h + 1, j, by go_num, rfl, by omega, by omega, hjb, Nat.le_refl _, S2, HE3⟩
            · have hltz : ¬ (i : Int) < (j : Int) := by omega
              have HE2 := HE.out
              rw [bsearch, if_neg hlt] at HE2
              subst HE2
              clear HE HRE
              have HR2 := HRES.out
              clear HRES
              unfold symM.symHalves at HR2
              simp only [hmid] at HR2
              obtain ⟨e, he⟩ : ∃ e, mid + m - i = e := ⟨_, rfl⟩
              rw [he] at HR2
              have ee : (n : Int) - (i : Int) = (e : Int) := by omega
              have heb : m ≤ e ∧ e ≤ b ∧ e + i = n := by omega
              clear he
              obtain ⟨s, hsi⟩ : ∃ s, s = i := ⟨_, rfl⟩
              subst hsi
              by_cases g0 : s < m
              · by_cases g1 : s < mid
                · by_cases g2 : a < s
                  · by_cases g3 : e < b
                    · have zA : (s : Int) < (m : Int) := by omega
                      have zB2 : (m : Int) < (e : Int) := by omega
                      have zC : (a : Int) < (s : Int) := by omega
                      have zB : (s : Int) < (mid : Int) := by omega
                      have zA2 : (mid : Int) < (e : Int) := by omega
                      have zD : (e : Int) < (b : Int) := by omega
                      rw [if_pos (show (s < m ∧ m < e) by omega), if_pos (show (a < s ∧ s < mid) by omega), if_pos (show (mid < e ∧ e < b) by omega)] at HR2
                      have HR3 : Hid _ := HR2
                      clear HR2
                      have RT := fun W (SK : SWK enc k w0 blk off d W) => rotate k L enc g cb blk off cap s m e d0 d w0 W R hs SK (by omega) (by omega) (by omega) (by omega)
                      go_wp2_with (go_at_fn 90; refine (RT _ S1.out).mono ?_; rintro e' w2 ⟨rfl, S2⟩)
                      clear RT S1
                      have hs2 : (rot m (m - s) (e - m) d).size = d.size := (rot_ok m (m - s + (e - m)) (m - s) (e - m) d (Nat.le_refl _) (by omega) (by omega) (by omega) (by omega)).1
                      generalize rot m (m - s) (e - m) d = d2 at S2 HR3 hs2
                      have S1 : Aside _ := S2
                      clear S2
                      have I1 := fun W (SK : SWK enc k w0 blk off d2 W) => ih d2 a s mid W (by omega) SK (by omega) (by omega) (by omega) (by omega)
                      rw [hs2] at I1
                      go_wp2_with (go_at_fn 76; refine (I1 _ S1.out).mono ?_; rintro e' w3 ⟨rfl, S3⟩)
                      clear I1 S1
                      have hs3 : (symM (ltOf cf) f d2 a s mid).size = d.size := (symM_size (ltOf cf) f d2 a s mid).trans hs2
                      generalize symM (ltOf cf) f d2 a s mid = d3 at S3 HR3 hs3
                      have S1 : Aside _ := S3
                      clear S3
                      have I2 := fun W (SK : SWK enc k w0 blk off d3 W) => ih d3 mid e b W (by omega) SK (by omega) (by omega) (by omega) (by omega)
                      rw [hs3] at I2
                      go_wp2_with (go_at_fn 76; refine (I2 _ S1.out).mono ?_; rintro e' w4 ⟨rfl, S4⟩)
                      clear I2 S1
                      have S1 : Aside _ := S4
                      clear S4
                      go_end0
                      exact ⟨rfl, by rw [HR3.out]; exact S1.out⟩
                    · have zA : (s : Int) < (m : Int) := by omega
                      have zB2 : (m : Int) < (e : Int) := by omega
                      have zC : (a : Int) < (s : Int) := by omega
                      have zB : (s : Int) < (mid : Int) := by omega
                      have zA2 : (mid : Int) < (e : Int) := by omega
                      have zD : ¬ (e : Int) < (b : Int) := by omega
                      rw [if_pos (show (s < m ∧ m < e) by omega), if_pos (show (a < s ∧ s < mid) by omega), if_neg (show ¬ (mid < e ∧ e < b) by omega)] at HR2
                      have HR3 : Hid _ := HR2
                      clear HR2
                      have RT := fun W (SK : SWK enc k w0 blk off d W) => rotate k L enc g cb blk off cap s m e d0 d w0 W R hs SK (by omega) (by omega) (by omega) (by omega)
                      go_wp2_with (go_at_fn 90; refine (RT _ S1.out).mono ?_; rintro e' w2 ⟨rfl, S2⟩)
                      clear RT S1
                      have hs2 : (rot m (m - s) (e - m) d).size = d.size := (rot_ok m (m - s + (e - m)) (m - s) (e - m) d (Nat.le_refl _) (by omega) (by omega) (by omega) (by omega)).1
                      generalize rot m (m - s) (e - m) d = d2 at S2 HR3 hs2
                      have S1 : Aside _ := S2
                      clear S2
                      have I1 := fun W (SK : SWK enc k w0 blk off d2 W) => ih d2 a s mid W (by omega) SK (by omega) (by omega) (by omega) (by omega)
                      rw [hs2] at I1
                      go_wp2_with (go_at_fn 76; refine (I1 _ S1.out).mono ?_; rintro e' w3 ⟨rfl, S3⟩)
                      clear I1 S1
                      have hs3 : (symM (ltOf cf) f d2 a s mid).size = d.size := (symM_size (ltOf cf) f d2 a s mid).trans hs2
                      generalize symM (ltOf cf) f d2 a s mid = d3 at S3 HR3 hs3
                      have S1 : Aside _ := S3
                      clear S3
                      go_wp2
                      go_end0
                      exact ⟨rfl, by rw [HR3.out]; exact S1.out⟩
                  · by_cases g3 : e < b
                    · exfalso
                      omega
                    · have zA : (s : Int) < (m : Int) := by omega
                      have zB2 : (m : Int) < (e : Int) := by omega
                      have zC : ¬ (a : Int) < (s : Int) := by omega
                      have zB : (s : Int) < (mid : Int) := by omega
                      have zA2 : (mid : Int) < (e : Int) := by omega
                      have zD : ¬ (e : Int) < (b : Int) := by omega
                      rw [if_pos (show (s < m ∧ m < e) by omega), if_neg (show ¬ (a < s ∧ s < mid) by omega), if_neg (show ¬ (mid < e ∧ e < b) by omega)] at HR2
                      have HR3 : Hid _ := HR2
                      clear HR2
                      have RT := fun W (SK : SWK enc k w0 blk off d W) => rotate k L enc g cb blk off cap s m e d0 d w0 W R hs SK (by omega) (by omega) (by omega) (by omega)
                      go_wp2_with (go_at_fn 90; refine (RT _ S1.out).mono ?_; rintro e' w2 ⟨rfl, S2⟩)
                      clear RT S1
                      have hs2 : (rot m (m - s) (e - m) d).size = d.size := (rot_ok m (m - s + (e - m)) (m - s) (e - m) d (Nat.le_refl _) (by omega) (by omega) (by omega) (by omega)).1
                      generalize rot m (m - s) (e - m) d = d2 at S2 HR3 hs2
                      have S1 : Aside _ := S2
                      clear S2
                      go_wp2
                      go_end0
                      exact ⟨rfl, by rw [HR3.out]; exact S1.out⟩
                · by_cases g2 : a < s
                  · by_cases g3 : e < b
                    · have zA : (s : Int) < (m : Int) := by omega
                      have zB2 : ¬ (m : Int) < (e : Int) := by omega
                      have zC : (a : Int) < (s : Int) := by omega
                      have zB : ¬ (s : Int) < (mid : Int) := by omega
                      have zA2 : (mid : Int) < (e : Int) := by omega
                      have zD : (e : Int) < (b : Int) := by omega
                      rw [if_neg (show ¬ (s < m ∧ m < e) by omega), if_neg (show ¬ (a < s ∧ s < mid) by omega), if_pos (show (mid < e ∧ e < b) by omega)] at HR2
                      have HR3 : Hid _ := HR2
                      clear HR2
                      have I2 := fun W (SK : SWK enc k w0 blk off d W) => ih d mid e b W (by omega) SK (by omega) (by omega) (by omega) (by omega)
                      skip
                      go_wp2_with (go_at_fn 76; refine (I2 _ S1.out).mono ?_; rintro e' w4 ⟨rfl, S4⟩)
                      clear I2 S1
                      have S1 : Aside _ := S4
                      clear S4
                      go_end0
                      exact ⟨rfl, by rw [HR3.out]; exact S1.out⟩
                    · exfalso
                      omega
                  · exfalso
                    omega
              · exfalso
                omega
        · have zm : ¬ (mid : Int) < (m : Int) := by omega
          rw [if_neg hmm, if_neg hmm] at hres
          obtain ⟨re, hre⟩ : ∃ r, r = bsearch (fun c => !ltOf cf d[p - c]! d[c]!) a m := ⟨_, rfl⟩
          rw [← hre] at hres
          have HRE : Hid (re = bsearch (fun c => !ltOf cf d[p - c]! d[c]!) a m) := hre
          have HRES : Hid _ := hres
          clear hre hres
          go_enter L.f76, Tryz.ntmps76
          go_wp2
          go_loopg [20, 21] (m - a) (fun kx s20 s21 wr => ∃ (i j : Nat), s20 = .int .i64 i ∧ s21 = .int .i64 j ∧ a ≤ i ∧ i ≤ j ∧ j ≤ m ∧ j - i ≤ kx ∧ Aside (SWK enc k w0 blk off d wr) ∧ Hid (bsearch (fun c => !ltOf cf d[p - c]! d[c]!) i j = re))
          case atStart => exact ⟨a, m, rfl, rfl, by omega, by omega, by omega, Nat.le_refl _, S0, HRE.out.symm⟩
          case round =>
            clear S0
            obtain ⟨i, j, rfl, rfl, him, hij, hjb, hkx, S1, HE⟩ := hrel
            by_cases hlt : i < j
            · have hltz : (i : Int) < (j : Int) := by omega
              have HE2 := HE.out
              rw [bsearch, if_pos hlt] at HE2
              obtain ⟨h, hh⟩ : ∃ h, h = (i + j) / 2 := ⟨_, rfl⟩
              rw [← hh] at HE2
              have eh : ((i : Int) + (j : Int)) / 2 = (h : Int) := by omega
              have hb1 : i ≤ h ∧ h < j := by omega
              clear hh HE
              obtain ⟨q, hq⟩ : ∃ q, p - h = q := ⟨_, rfl⟩
              rw [hq] at HE2
              have eq : (p : Int) - (h : Int) = (q : Int) := by omega
              have hqb : q < d.size ∧ q + h = p := by omega
              clear hq
              have rq : IntKind.i64.wrap (q : Int) = (q : Int) := by rw [IntKind.wrap_i64]; omega
              have hqz : (q : Int) < (d.size : Int) := by omega
              have hhz : (h : Int) < (d.size : Int) := by omega
              cases hL : ltOf cf d[q]! d[h]! with
              | true =>
                rw [if_neg (by rw [hL]; simp)] at HE2
                have HE3 : Hid _ := HE2
                clear HE2
                obtain ⟨x1, hx1⟩ : ∃ x, x = d[q]! := ⟨_, rfl⟩
                obtain ⟨y1, hy1⟩ : ∃ x, x = d[h]! := ⟨_, rfl⟩
                have l1a := S1.out.ld R (by omega) P q (by omega)
                have l1b := S1.out.ld R (by omega) P h (by omega)
                rw [← hx1] at l1a
                rw [← hy1] at l1b
                have hc1 := S1.out.cmp HC.out (by omega) x1 y1
                have hv1 : cf x1 y1 < 0 := by rw [hx1, hy1]; exact of_decide_eq_true hL
                have hd1 : decide (cf x1 y1 < 0) = true := decide_eq_true hv1
                clear hx1 hy1
                go_wp2_with fail
                go_quiet_grown (first | (go_at_fn g; refine Calls.grown_of (hc1 _ _)))
                have S2 : Aside (SWK enc k w0 blk off d (grow (wr.drewN nq) osq)) := S1.out.grown nq osq
                clear l1a l1b hc1 S1
                generalize grow (wr.drewN nq) osq = w2 at S2 ⊢
                clear nq osq
                go_wp2
                go_roundg (h - i)
                case measure => omega
                case rel => exact ⟨i, h, rfl, rfl, by omega, by omega, by omega, Nat.le_refl _, S2, HE3⟩
              | false =>
                rw [if_pos (by rw [hL]; rfl)] at HE2
                have HE3 : Hid _ := HE2
                clear HE2
                obtain ⟨x2, hx2⟩ : ∃ x, x = d[q]! := ⟨_, rfl⟩
                obtain ⟨y2, hy2⟩ : ∃ x, x = d[h]! := ⟨_, rfl⟩
                have l2a := S1.out.ld R (by omega) P q (by omega)
                have l2b := S1.out.ld R (by omega) P h (by omega)
                rw [← hx2] at l2a
                rw [← hy2] at l2b
                have hc2 := S1.out.cmp HC.out (by omega) x2 y2
                have hv2 : ¬ cf x2 y2 < 0 := by rw [hx2, hy2]; exact of_decide_eq_false hL
                have hd2 : decide (cf x2 y2 < 0) = false := decide_eq_false hv2
                clear hx2 hy2
                go_wp2_with fail
                go_quiet_grown (first | (go_at_fn g; refine Calls.grown_of (hc2 _ _)))
                have S2 : Aside (SWK enc k w0 blk off d (grow (wr.drewN nq) osq)) := S1.out.grown nq osq
                clear l2a l2b hc2 S1
                generalize grow (wr.drewN nq) osq = w2 at S2 ⊢
                clear nq osq
                go_wp2
                go_roundg (j - (h + 1))
                case measure => omega
                case rel => exact ⟨h + 1, j, by go_num, rfl, by omega, by omega, hjb, Nat.le_refl _, S2, HE3⟩
            · have hltz : ¬ (i : Int) < (j : Int) := by omega
              have HE2 := HE.out
              rw [bsearch, if_neg hlt] at HE2
              subst HE2
              clear HE HRE
              have HR2 := HRES.out
              clear HRES
              unfold symM.symHalves at HR2
              simp only [hmid] at HR2
              obtain ⟨e, he⟩ : ∃ e, mid + m - i = e := ⟨_, rfl⟩
              rw [he] at HR2
              have ee : (n : Int) - (i : Int) = (e : Int) := by omega
              have heb : m ≤ e ∧ e ≤ b ∧ e + i = n := by omega
              clear he
              obtain ⟨s, hsi⟩ : ∃ s, s = i := ⟨_, rfl⟩
              subst hsi
              by_cases g0 : s < m
              · by_cases g1 : s < mid
                · by_cases g2 : a < s
                  · by_cases g3 : e < b
                    · have zA : (s : Int) < (m : Int) := by omega
                      have zB2 : (m : Int) < (e : Int) := by omega
                      have zC : (a : Int) < (s : Int) := by omega
                      have zB : (s : Int) < (mid : Int) := by omega
                      have zA2 : (mid : Int) < (e : Int) := by omega
                      have zD : (e : Int) < (b : Int) := by omega
                      rw [if_pos (show (s < m ∧ m < e) by omega), if_pos (show (a < s ∧ s < mid) by omega), if_pos (show (mid < e ∧ e < b) by omega)] at HR2
                      have HR3 : Hid _ := HR2
                      clear HR2
                      have RT := fun W (SK : SWK enc k w0 blk off d W) => rotate k L enc g cb blk off cap s m e d0 d w0 W R hs SK (by omega) (by omega) (by omega) (by omega)
                      go_wp2_with (go_at_fn 90; refine (RT _ S1.out).mono ?_; rintro e' w2 ⟨rfl, S2⟩)
                      clear RT S1
                      have hs2 : (rot m (m - s) (e - m) d).size = d.size := (rot_ok m (m - s + (e - m)) (m - s) (e - m) d (Nat.le_refl _) (by omega) (by omega) (by omega) (by omega)).1
                      generalize rot m (m - s) (e - m) d = d2 at S2 HR3 hs2
                      have S1 : Aside _ := S2
                      clear S2
                      have I1 := fun W (SK : SWK enc k w0 blk off d2 W) => ih d2 a s mid W (by omega) SK (by omega) (by omega) (by omega) (by omega)
                      rw [hs2] at I1
                      go_wp2_with (go_at_fn 76; refine (I1 _ S1.out).mono ?_; rintro e' w3 ⟨rfl, S3⟩)
                      clear I1 S1
                      have hs3 : (symM (ltOf cf) f d2 a s mid).size = d.size := (symM_size (ltOf cf) f d2 a s mid).trans hs2
                      generalize symM (ltOf cf) f d2 a s mid = d3 at S3 HR3 hs3
                      have S1 : Aside _ := S3
                      clear S3
                      have I2 := fun W (SK : SWK enc k w0 blk off d3 W) => ih d3 mid e b W (by omega) SK (by omega) (by omega) (by omega) (by omega)
                      rw [hs3] at I2
                      go_wp2_with (go_at_fn 76; refine (I2 _ S1.out).mono ?_; rintro e' w4 ⟨rfl, S4⟩)
                      clear I2 S1
                      have S1 : Aside _ := S4
                      clear S4
                      go_end0
                      exact ⟨rfl, by rw [HR3.out]; exact S1.out⟩
                    · exfalso
                      omega
                  · by_cases g3 : e < b
                    · have zA : (s : Int) < (m : Int) := by omega
                      have zB2 : (m : Int) < (e : Int) := by omega
                      have zC : ¬ (a : Int) < (s : Int) := by omega
                      have zB : (s : Int) < (mid : Int) := by omega
                      have zA2 : (mid : Int) < (e : Int) := by omega
                      have zD : (e : Int) < (b : Int) := by omega
                      rw [if_pos (show (s < m ∧ m < e) by omega), if_neg (show ¬ (a < s ∧ s < mid) by omega), if_pos (show (mid < e ∧ e < b) by omega)] at HR2
                      have HR3 : Hid _ := HR2
                      clear HR2
                      have RT := fun W (SK : SWK enc k w0 blk off d W) => rotate k L enc g cb blk off cap s m e d0 d w0 W R hs SK (by omega) (by omega) (by omega) (by omega)
                      go_wp2_with (go_at_fn 90; refine (RT _ S1.out).mono ?_; rintro e' w2 ⟨rfl, S2⟩)
                      clear RT S1
                      have hs2 : (rot m (m - s) (e - m) d).size = d.size := (rot_ok m (m - s + (e - m)) (m - s) (e - m) d (Nat.le_refl _) (by omega) (by omega) (by omega) (by omega)).1
                      generalize rot m (m - s) (e - m) d = d2 at S2 HR3 hs2
                      have S1 : Aside _ := S2
                      clear S2
                      have I2 := fun W (SK : SWK enc k w0 blk off d2 W) => ih d2 mid e b W (by omega) SK (by omega) (by omega) (by omega) (by omega)
                      rw [hs2] at I2
                      go_wp2_with (go_at_fn 76; refine (I2 _ S1.out).mono ?_; rintro e' w4 ⟨rfl, S4⟩)
                      clear I2 S1
                      have S1 : Aside _ := S4
                      clear S4
                      go_end0
                      exact ⟨rfl, by rw [HR3.out]; exact S1.out⟩
                    · have zA : (s : Int) < (m : Int) := by omega
                      have zB2 : (m : Int) < (e : Int) := by omega
                      have zC : ¬ (a : Int) < (s : Int) := by omega
                      have zB : (s : Int) < (mid : Int) := by omega
                      have zA2 : (mid : Int) < (e : Int) := by omega
                      have zD : ¬ (e : Int) < (b : Int) := by omega
                      rw [if_pos (show (s < m ∧ m < e) by omega), if_neg (show ¬ (a < s ∧ s < mid) by omega), if_neg (show ¬ (mid < e ∧ e < b) by omega)] at HR2
                      have HR3 : Hid _ := HR2
                      clear HR2
                      have RT := fun W (SK : SWK enc k w0 blk off d W) => rotate k L enc g cb blk off cap s m e d0 d w0 W R hs SK (by omega) (by omega) (by omega) (by omega)
                      go_wp2_with (go_at_fn 90; refine (RT _ S1.out).mono ?_; rintro e' w2 ⟨rfl, S2⟩)
                      clear RT S1
                      have hs2 : (rot m (m - s) (e - m) d).size = d.size := (rot_ok m (m - s + (e - m)) (m - s) (e - m) d (Nat.le_refl _) (by omega) (by omega) (by omega) (by omega)).1
                      generalize rot m (m - s) (e - m) d = d2 at S2 HR3 hs2
                      have S1 : Aside _ := S2
                      clear S2
                      go_wp2
                      go_end0
                      exact ⟨rfl, by rw [HR3.out]; exact S1.out⟩
                · exfalso
                  omega
              · by_cases g1 : s < mid
                · by_cases g2 : a < s
                  · by_cases g3 : e < b
                    · have zA : ¬ (s : Int) < (m : Int) := by omega
                      have zB2 : (m : Int) < (e : Int) := by omega
                      have zC : (a : Int) < (s : Int) := by omega
                      have zB : (s : Int) < (mid : Int) := by omega
                      have zA2 : ¬ (mid : Int) < (e : Int) := by omega
                      have zD : (e : Int) < (b : Int) := by omega
                      rw [if_neg (show ¬ (s < m ∧ m < e) by omega), if_pos (show (a < s ∧ s < mid) by omega), if_neg (show ¬ (mid < e ∧ e < b) by omega)] at HR2
                      have HR3 : Hid _ := HR2
                      clear HR2
                      have I1 := fun W (SK : SWK enc k w0 blk off d W) => ih d a s mid W (by omega) SK (by omega) (by omega) (by omega) (by omega)
                      skip
                      go_wp2_with (go_at_fn 76; refine (I1 _ S1.out).mono ?_; rintro e' w3 ⟨rfl, S3⟩)
                      clear I1 S1
                      have hs3 : (symM (ltOf cf) f d a s mid).size = d.size := (symM_size (ltOf cf) f d a s mid).trans rfl
                      generalize symM (ltOf cf) f d a s mid = d3 at S3 HR3 hs3
                      have S1 : Aside _ := S3
                      clear S3
                      go_wp2
                      go_end0
                      exact ⟨rfl, by rw [HR3.out]; exact S1.out⟩
                    · exfalso
                      omega
                  · exfalso
                    omega
                · by_cases g2 : a < s
                  · by_cases g3 : e < b
                    · have zA : ¬ (s : Int) < (m : Int) := by omega
                      have zB2 : ¬ (m : Int) < (e : Int) := by omega
                      have zC : (a : Int) < (s : Int) := by omega
                      have zB : ¬ (s : Int) < (mid : Int) := by omega
                      have zA2 : ¬ (mid : Int) < (e : Int) := by omega
                      have zD : (e : Int) < (b : Int) := by omega
                      rw [if_neg (show ¬ (s < m ∧ m < e) by omega), if_neg (show ¬ (a < s ∧ s < mid) by omega), if_neg (show ¬ (mid < e ∧ e < b) by omega)] at HR2
                      have HR3 : Hid _ := HR2
                      clear HR2
                      go_wp2
                      go_end0
                      exact ⟨rfl, by rw [HR3.out]; exact S1.out⟩
                    · exfalso
                      omega
                  · exfalso
                    omega

end Go.Proofs.YtbbnlagdahickaaGreatDoor.SortW
