/- For every argument the law FnExactSideOk returns true (program and reference agree), and the arguments read behind the call as before. Conditions: none. -/
import Derived.Test.YteghfiladifjpaaRows
import Derived.Test.YteghfiladifjpaaPFnExactSideOkx
import Derived.Test.YteghfiladifjpaaPureFnExactSideOk
import Derived.Test.YteghfiladifjpaaAid
import Derived.WalkKit
import Derived.ProofKit
import Derived.OpenShut
import Derived.ShutString
import Derived.ChangeOld
import Derived.Below
import Derived.Carry
import Derived.SizedLaws
import Derived.Test.YteghfiladifjpaaWSized
namespace Go.Proofs.Yteghfiladifjpaa.fnExactSideOk
open Go.ChangeShapes Go.WideShapes Go.ChangeAt Go.RowKit PFnExactSideOk Go.Proofs.YteghfiladifjpaaW.PrintWords
open Go.ChangeMaps (open_string shut_string)
set_option linter.unusedVariables false
theorem own : ownKnob Try.prog.godebug = none := by kernel_rfl
theorem laidOut : laidOutB Try.prog = true := by kernel_rfl
/-- A slice of laws.Policy that came in: one list. -/
theorem open_Policys {H : Type} {enc : TypeId × Value → H} {w : World} {base : Nat} {spare : Nat → Bool} {held : Bool} {fuel : Nat} {a : Option Addr} {len cap : Nat} {x : DataW H × List MemPlace} (h : DataW.trod enc Try.prog w base spare held fuel 74 [.slice a len cap] = some x) :
    ∃ l : List S122, len = l.length ∧ k122.C w a l.length l ∧ l.length ≤ cap ∧ l.length ≤ maxLen ∧ ∀ x ∈ l, (Lit.int .i64 x.f0).wf = true ∧ (Lit.int .i64 x.f1).wf = true ∧ (Lit.int .i64 x.f2).wf = true := by
  rcases Aid.open_slice_fields Try.underlying74 Try.underlying122 (by kernel_rfl) (by kernel_rfl) h with h0 | ⟨b, n, c, m, hcs, hl, hm, hlm, hf⟩
  · obtain ⟨rfl, rfl, rfl⟩ : a = none ∧ len = 0 ∧ cap = 0 := by simpa using h0
    exact ⟨[], rfl, Aid.list_nil _ _, by simp, by simp, by simp⟩
  · simp at hcs
    obtain ⟨rfl, rfl, rfl⟩ := hcs
    have hrows : ∀ i, i < len → ∃ x : S122, ((Lit.int .i64 x.f0).wf = true ∧ (Lit.int .i64 x.f1).wf = true ∧ (Lit.int .i64 x.f2).wf = true) ∧ ∃ c, c.length = k122.sz ∧ k122.K w x c ∧ ∀ j u, c[j]? = some u → w.cell? (b.add (i * k122.sz + j)) = some u := by
      intro i hi
      obtain ⟨n, hn⟩ := hf i (by omega)
      obtain ⟨v0, y0, e0, t0⟩ := hn 0 _ rfl
      obtain ⟨z0, q0, _, w0⟩ := DataW.trod_int Try.underlying3 t0
      obtain rfl : v0 = .int .i64 z0 := by simpa using q0
      obtain ⟨v1, y1, e1, t1⟩ := hn 1 _ rfl
      obtain ⟨z1, q1, _, w1⟩ := DataW.trod_int Try.underlying3 t1
      obtain rfl : v1 = .int .i64 z1 := by simpa using q1
      obtain ⟨v2, y2, e2, t2⟩ := hn 2 _ rfl
      obtain ⟨z2, q2, _, w2⟩ := DataW.trod_int Try.underlying3 t2
      obtain rfl : v2 = .int .i64 z2 := by simpa using q2
      refine ⟨⟨z0, z1, z2⟩, ⟨w0, w1, w2⟩, [.int .i64 z0, .int .i64 z1, .int .i64 z2], rfl, k122_mk w ⟨z0, z1, z2⟩, fun j u hj => ?_⟩
      match j, hj with
      | 0, hj => simp at hj; subst hj; exact e0
      | 1, hj => simp at hj; subst hj; exact e1
      | 2, hj => simp at hj; subst hj; exact e2
      | j + 3, hj => simp at hj
    obtain ⟨l, rfl, hC, hw⟩ := Aid.list_of_rows k122 (fun x => (Lit.int .i64 x.f0).wf = true ∧ (Lit.int .i64 x.f1).wf = true ∧ (Lit.int .i64 x.f2).wf = true) w b len (by unfold maxLen at hm; omega) hrows
    exact ⟨l, rfl, hC, hl, by omega, hw⟩
set_option maxRecDepth 100000 in
theorem lifted (os : Os) (started : os.Started) (H : Type) (enc : TypeId × Value → H) :
    ReturnsInHanded {} Try.checked os 13 .any (Rows.fnExactSideOkSpec.pre6 enc Try.prog Try.f13 Rows.fnExactSideOkRow.domain false) (Rows.fnExactSideOkSpec.post enc Try.prog Try.f13 false true false false) := by
  refine returnsInHanded_of_change_sized (C := Try.checked) own started (by kernel_rfl) Try.func13
    (ChangeSpec.witness6 (enc := enc) (C := Try.checked) false ⟨#[], #[.agg #[.slice none 0 0, .int .i64 0, .int .i64 0]], []⟩ 8 (by kernel_rfl) (by kernel_rfl) (by kernel_rfl) (by kernel_rfl)) ?_
  intro W base args ds gs before hval0 hW hcnd hsz0 _
  have hsz : (DataW.weightsEach Try.prog (Try.f13.params.toList ++ Rows.fnExactSideOkSpec.plain.varTypes Try.prog) (ds ++ gs)).all (· ≤ reachBytes) = true := hsz0
  have hval : ∀ (j : Nat) t v, Try.f13.params[j]? = some t → args[j]? = some v → Value.okWide Try.prog W .any base t v := hval0
  have hW' := hW
  obtain ⟨p, q, hA0, hV, rfl, hfz, hnd⟩ := hW
  have hA : DataW.TrodAll enc Try.prog W 0 (fun _ => true) true Try.f13.params.toList args.toList ds p := hA0
  rw [Try.params13] at hA hval hsz
  obtain ⟨v0, vs0, d0, ds0, p0, q0, hargs, rfl, rfl, h0, r0⟩ := trodAll_cons hA
  obtain ⟨rfl, rfl, rfl⟩ := trodAll_nil r0
  obtain rfl : args = #[v0] := by cases args; simp_all
  obtain ⟨rfl, rfl⟩ := trodVars_none hV
  have k0 := h0
  have lt0 : ∀ x ∈ p0, x.block < W.heap.size := by obtain ⟨m, hm⟩ := k0; exact DataW.trod_lt m _ _ _ hm
  obtain ⟨c0_0, c0_1, c0_2, y0_0, y0_1, y0_2, n0, rfl, hd0, hp0, t0_0, t0_1, t0_2⟩ := Go.Joins.open_agg3 Try.underlying76 (by kernel_rfl) (by kernel_rfl) (hval 0 76 v0 rfl rfl) h0
  obtain ⟨A0_0, len0_0, cap0_0, q0_0⟩ := Go.Joins.slice_form Try.underlying74 t0_0
  obtain rfl : c0_0 = .slice A0_0 len0_0 cap0_0 := by simpa using q0_0
  obtain ⟨l0_0, rfl, hr0_0, hc0_0, hm0_0, w0_0⟩ := open_Policys t0_0
  obtain ⟨a0_1, q0_1, _, w0_1⟩ := DataW.trod_int Try.underlying3 t0_1
  obtain rfl : c0_1 = .int .i64 a0_1 := by simpa using q0_1
  obtain ⟨a0_2, q0_2, _, w0_2⟩ := DataW.trod_int Try.underlying3 t0_2
  obtain rfl : c0_2 = .int .i64 a0_2 := by simpa using q0_2
  clear hA0 hval0 hsz0 hsz
  obtain ⟨k, hk⟩ := Pure.FnExactSideOk l0_0 a0_1 a0_2 hm0_0 w0_0 w0_1 w0_2
  refine (PFnExactSideOk.laws_FnExactSideOk.calls k _ _ l0_0 a0_1 a0_2 true W hr0_0 hc0_0 hk).mono fun e W' ⟨he, bel⟩ => ?_
  subst he
  exact ⟨_, rfl, _, _, _, [], _, [], hW', trodAll_mk1 (shut_bool Try.underlying4 _), (trodAll_cons_mk (Below.trod laidOut (by kernel_rfl) (of_decide_eq_true (by kernel_rfl)) k0 bel lt0) trodAll_mk0), rfl, bel.frame _, fun h => by cases h⟩
theorem over : Rows.fnExactSideOkRow.holds Try.pinned (OpenSpec.ofChange Rows.fnExactSideOkSpec) :=
  OpenClaim.holds_of_wide 13 Try.f13 rfl rfl rfl rfl rfl rfl rfl ⟨rfl, rfl, rfl, rfl, rfl⟩ rfl rfl rfl rfl rfl (by kernel_rfl) Try.func13 (by kernel_rfl)
    (of_decide_eq_true (by kernel_rfl)) (by unfold Func.isWrapper; first | (rw [if_pos (by decide +kernel)]; kernel_rfl) | (rw [if_neg (by decide +kernel)]; exact ⟨rfl, rfl⟩))
    (fun os started H enc _ => lifted os started H enc)
theorem proved : Rows.FnExactSideOkSaid := over
end Go.Proofs.Yteghfiladifjpaa.fnExactSideOk
namespace Go.Proofs.Yteghfiladifjpaa
/-- The row, under a short name, for the claim. -/
theorem fnExactSideOk_holds : Rows.FnExactSideOkSaid := fnExactSideOk.proved
#print axioms fnExactSideOk_holds
end Go.Proofs.Yteghfiladifjpaa
