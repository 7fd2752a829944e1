/- For every Goal the law FnExactGoalLine returns true: impl.GoalLine and spec.GoalLine give the same line, and the argument reads behind the call as before; the listed variables of Go's library are tied to its text. Conditions: none. -/
import Derived.Test.YtbbnlagdahickaaDoorRows
import Derived.Test.YtbbnlagdahickaaDoorOFnExactGoalLinex
import Derived.Test.YtbbnlagdahickaaDoorPureFnExactGoalLine
import Derived.Test.YtbbnlagdahickaaDoorAid
import Derived.WalkKit
import Derived.ProofKit
import Derived.OpenShut
import Derived.ShutString
import Derived.ChangeOld
import Derived.Below
import Derived.Carry
import Derived.SizedLaws
import Derived.Test.YtbbnlagdahickaaDoorWSized
import Derived.Test.YtbbnlagdahickaaDoorCards
import Derived.Test.YtbbnlagdahickaaDoorTie
import Derived.LaidMore
import Derived.Stop.LaidErr
import Derived.MakeChecks
import Derived.LaidHandle
import Derived.LaidOnce
import Derived.SevenTiedAt
import Derived.Stop.Joined
import Derived.Lib.LaidTab
import Derived.Lay
namespace Go.Proofs.YtbbnlagdahickaaDoor.fnExactGoalLine
open Go.ChangeShapes Go.WideShapes Go.ChangeAt Go.RowKit PFnExactGoalLine Go.Proofs.YtbbnlagdahickaaDoorW.PrintWords
open Go.ChangeMaps (open_string shut_string)
set_option linter.unusedVariables false
theorem own : ownKnob Tryd.prog.godebug = none := by kernel_rfl
theorem laidOut : laidOutB Tryd.prog = true := by kernel_rfl
def laidList : List (String × DataW Unit) := Rows.fnExactGoalLineRow.laid
theorem lay_of {W : World} (hL : laidMetH Tryd.prog Rows.fnExactGoalLineRow.laid W) : Lay W := by
  have h : laidMet Tryd.prog Rows.fnExactGoalLineRow.laid W := by
    rw [MakeChecks.laidMetH_plain _ _ _ (by kernel_rfl)] at hL
    exact hL
  have e : (Rows.laid_internal_strconv_uint64pow10 : DataW Unit) = Lib.tabData .u64 Lib.pow10Tab := by kernel_rfl
  have h2 : laidMet Tryd.prog (("internal/strconv.uint64pow10", Lib.tabData .u64 Lib.pow10Tab) :: Rows.fnExactGoalLineRow.laid.drop 3) W := by
    rw [← e]
    exact (Go.laidMet.tail (Go.laidMet.tail h))
  exact ⟨Lib.tabIs_of_head (g := 3) (t := 125) (e := 109) (n := 20) (by kernel_rfl) (by kernel_rfl) (by kernel_rfl) (by kernel_rfl) (by kernel_rfl) (by kernel_rfl) h2⟩
set_option maxRecDepth 100000 in
theorem lifted (os : Os) (started : os.Started) (H : Type) (enc : TypeId × Value → H) :
    ReturnsInHanded {} Tryd.checked os 5 .any (fun w args => (Rows.fnExactGoalLineSpec.pre enc Tryd.prog Tryd.f5 [] false w args ∧ laidMetH Tryd.prog Rows.fnExactGoalLineRow.laid w) ∧ sizedMet enc Tryd.prog Tryd.f5 (OpenSpec.ofChange Rows.fnExactGoalLineSpec) false w args)
      (Rows.fnExactGoalLineSpec.post enc Tryd.prog Tryd.f5 false true false false) := by
  refine returnsInHanded_of_change_and (C := Tryd.checked) (X := fun w _ => laidMetH Tryd.prog Rows.fnExactGoalLineRow.laid w) (fun _ _ _ hh h => h.of_heap hh) own started (by kernel_rfl) Tryd.func5
    (ChangeSpec.witness_shaped (enc := enc) (C := Tryd.checked) (os := os) (X := fun w _ => laidMetH Tryd.prog Rows.fnExactGoalLineRow.laid w) false (World.laidAll Tryd.prog os Rows.fnExactGoalLineRow.laid) #[.agg #[.string ByteArray.empty, .int .i64 0, .int .i64 0]] 8 (World.laidAll_os _ _ _)
      (World.shaped_of_ZipB (by kernel_rfl) (by kernel_rfl)) (by kernel_rfl) (by kernel_rfl) (by kernel_rfl)
      (by rw [MakeChecks.laidMetH_plain _ _ _ (by kernel_rfl)]; exact laidMet_laidAll _ (by kernel_rfl) (by kernel_rfl))) ?_
  intro W base args ds gs before hval0 hW _ _ hL hsz0
  have HT := lay_of hL
  have hval : ∀ (j : Nat) t v, Tryd.f5.params[j]? = some t → args[j]? = some v → Value.okWide Tryd.prog W .any base t v := hval0
  have hW' := hW
  obtain ⟨p, q, hA0, hV, rfl, hfz, hnd⟩ := hW
  have hA : DataW.TrodAll enc Tryd.prog W 0 (fun _ => true) true Tryd.f5.params.toList args.toList ds p := hA0
  rw [Tryd.params5] at hA hval
  obtain ⟨v0, vs0, d0, ds0, p0, q0, hargs, rfl, rfl, h0, r0⟩ := trodAll_cons hA
  obtain ⟨rfl, rfl, rfl⟩ := trodAll_nil r0
  obtain rfl : args = #[v0] := by cases args; simp_all
  obtain ⟨rfl, rfl⟩ := trodVars_none hV
  have k0 := h0
  have lt0 : ∀ x ∈ p0, x.block < W.heap.size := by obtain ⟨m, hm⟩ := k0; exact DataW.trod_lt m _ _ _ hm
  obtain ⟨c0_0, c0_1, c0_2, y0_0, y0_1, y0_2, n0, rfl, hd0, hp0, t0_0, t0_1, t0_2⟩ := Go.Joins.open_agg3 Tryd.underlying32 (by kernel_rfl) (by kernel_rfl) (hval 0 32 v0 rfl rfl) h0
  obtain ⟨a0_0, q0_0, _, w0_0⟩ := DataW.trod_string Tryd.underlying9 t0_0
  obtain rfl : c0_0 = .string a0_0 := by simpa using q0_0
  obtain ⟨a0_1, q0_1, _, w0_1⟩ := DataW.trod_int Tryd.underlying3 t0_1
  obtain rfl : c0_1 = .int .i64 a0_1 := by simpa using q0_1
  obtain ⟨a0_2, q0_2, _, w0_2⟩ := DataW.trod_int Tryd.underlying3 t0_2
  obtain rfl : c0_2 = .int .i64 a0_2 := by simpa using q0_2
  clear hA0 hval0
  obtain ⟨k, hk⟩ := Pure.FnExactGoalLine a0_0 a0_1 a0_2 w0_0 w0_1 w0_2
  refine (PFnExactGoalLine.laws_FnExactGoalLine.calls k a0_0 a0_1 a0_2 true W HT hk).mono fun e W' ⟨he, bel⟩ => ?_
  subst he
  exact ⟨_, rfl, _, _, _, [], _, [], hW', trodAll_mk1 (shut_bool Tryd.underlying4 _), (trodAll_cons_mk (Below.trod laidOut (by kernel_rfl) (of_decide_eq_true (by kernel_rfl)) k0 bel lt0) trodAll_mk0), rfl, bel.frame _, fun h => by cases h⟩
theorem over : Rows.fnExactGoalLineRow.holds Tryd.pinned (OpenSpec.ofChange Rows.fnExactGoalLineSpec) :=
  OpenClaim.holds_of_wide 5 Tryd.f5 rfl rfl rfl rfl rfl rfl rfl ⟨rfl, rfl, rfl, rfl, rfl⟩ rfl rfl rfl rfl rfl (by kernel_rfl) Tryd.func5 (by kernel_rfl)
    (of_decide_eq_true (by kernel_rfl)) (by unfold Func.isWrapper; first | (rw [if_pos (by decide +kernel)]; kernel_rfl) | (rw [if_neg (by decide +kernel)]; exact ⟨rfl, rfl⟩))
    (fun os started H enc _ => lifted os started H enc)
theorem proved : Rows.FnExactGoalLineSaid := over
theorem card : Rows.FnExactGoalLineCardSaid :=
  Claim7.holds_tied_plain_at .later [] [.data, .data, .data, .data, .pinned] true (true, "1fb2e6dad83d746e8685c37f2d81c59c3b12eb8af11081bfc01a21b73929d165") true
    proved (fun _ h => by cases h) (by kernel_rfl) (fun _ h => by cases h) fnExactGoalLine_row_tie rfl ⟨rfl, rfl⟩ (by kernel_rfl) rfl
    (fun f fn hf hfn => by
      obtain rfl : f = 5 := Option.some.inj ((show Tryd.prog.funcNamed "loop.example/g00808/laws.FnExactGoalLine" = some 5 by kernel_rfl).symm.trans hf) |>.symm
      obtain rfl : fn = Tryd.f5 := (Option.some.inj (Tryd.func5.symm.trans hfn)).symm
      exact ⟨by kernel_rfl, fun j t ht => by
        rw [Tryd.params5] at ht
        have hm : t ∈ [32] := by simpa using Array.mem_of_getElem? ht
        have hall : ([32].all fun u => !Tryd.prog.wantsStandIn u) = true := by kernel_rfl
        exact (show Tryd.prog.wantsStandIn t = false by simpa using List.all_eq_true.1 hall t hm)⟩)
    (by kernel_rfl)
end Go.Proofs.YtbbnlagdahickaaDoor.fnExactGoalLine
namespace Go.Proofs.YtbbnlagdahickaaDoor
/-- The card, under a short name, for the claim. -/
theorem fnExactGoalLine_holds : Rows.FnExactGoalLineCardSaid := fnExactGoalLine.card
#print axioms fnExactGoalLine_holds
end Go.Proofs.YtbbnlagdahickaaDoor
