/- For every argument the law FnExactPodsOk returns true (program and reference agree), and the arguments read behind the call as before. Conditions: none. -/
import Derived.Test.YtpoabjpglfbolaaRows
import Derived.Test.YtpoabjpglfbolaaOFnExactPodsOkx
import Derived.Test.YtpoabjpglfbolaaPureFnExactPodsOk
import Derived.Test.YtpoabjpglfbolaaAid
import Derived.WalkKit
import Derived.ProofKit
import Derived.OpenShut
import Derived.ShutString
import Derived.ChangeOld
import Derived.Below
import Derived.Carry
import Derived.SizedLaws
import Derived.Test.YtpoabjpglfbolaaWSized
namespace Go.Proofs.Ytpoabjpglfbolaa.fnExactPodsOk
open Go.ChangeShapes Go.WideShapes Go.ChangeAt Go.RowKit PFnExactPodsOk Go.Proofs.YtpoabjpglfbolaaW.PrintWords
open Go.ChangeMaps (open_string shut_string)
set_option linter.unusedVariables false
theorem own : ownKnob Try.prog.godebug = none := by kernel_rfl
theorem laidOut : laidOutB Try.prog = true := by kernel_rfl
/-- A slice of laws.Pod that came in: one list. -/
theorem open_Pods {H : Type} {enc : TypeId × Value → H} {w : World} {base : Nat} {spare : Nat → Bool} {held : Bool} {fuel : Nat} {a : Option Addr} {len cap : Nat} {x : DataW H × List MemPlace} (h : DataW.trod enc Try.prog w base spare held fuel 22 [.slice a len cap] = some x) :
    ∃ l : List S52, len = l.length ∧ k52.C w a l.length l ∧ l.length ≤ cap ∧ l.length ≤ maxLen ∧ ∀ x ∈ l, x.f0.size ≤ maxLen ∧ (Lit.int .i64 x.f1).wf = true ∧ (Lit.int .i64 x.f2).wf = true := by
  rcases Aid.open_slice_fields Try.underlying22 Try.underlying52 (by kernel_rfl) (by kernel_rfl) h with h0 | ⟨b, n, c, m, hcs, hl, hm, hlm, hf⟩
  · obtain ⟨rfl, rfl, rfl⟩ : a = none ∧ len = 0 ∧ cap = 0 := by simpa using h0
    exact ⟨[], rfl, Aid.list_nil _ _, by simp, by simp, by simp⟩
  · simp at hcs
    obtain ⟨rfl, rfl, rfl⟩ := hcs
    have hrows : ∀ i, i < len → ∃ x : S52, (x.f0.size ≤ maxLen ∧ (Lit.int .i64 x.f1).wf = true ∧ (Lit.int .i64 x.f2).wf = true) ∧ ∃ c, c.length = k52.sz ∧ k52.K w x c ∧ ∀ j u, c[j]? = some u → w.cell? (b.add (i * k52.sz + j)) = some u := by
      intro i hi
      obtain ⟨n, hn⟩ := hf i (by omega)
      obtain ⟨v0, y0, e0, t0⟩ := hn 0 _ rfl
      obtain ⟨z0, q0, _, w0⟩ := DataW.trod_string Try.underlying9 t0
      obtain rfl : v0 = .string z0 := by simpa using q0
      obtain ⟨v1, y1, e1, t1⟩ := hn 1 _ rfl
      obtain ⟨z1, q1, _, w1⟩ := DataW.trod_int Try.underlying3 t1
      obtain rfl : v1 = .int .i64 z1 := by simpa using q1
      obtain ⟨v2, y2, e2, t2⟩ := hn 2 _ rfl
      obtain ⟨z2, q2, _, w2⟩ := DataW.trod_int Try.underlying3 t2
      obtain rfl : v2 = .int .i64 z2 := by simpa using q2
      obtain ⟨v3, y3, e3, t3⟩ := hn 3 _ rfl
      obtain ⟨z3, q3, _⟩ := DataW.trod_bool Try.underlying4 t3
      obtain rfl : v3 = .bool z3 := by simpa using q3
      refine ⟨⟨z0, z1, z2, z3⟩, ⟨w0, w1, w2⟩, [.string z0, .int .i64 z1, .int .i64 z2, .bool z3], rfl, k52_mk w ⟨z0, z1, z2, z3⟩, fun j u hj => ?_⟩
      match j, hj with
      | 0, hj => simp at hj; subst hj; exact e0
      | 1, hj => simp at hj; subst hj; exact e1
      | 2, hj => simp at hj; subst hj; exact e2
      | 3, hj => simp at hj; subst hj; exact e3
      | j + 4, hj => simp at hj
    obtain ⟨l, rfl, hC, hw⟩ := Aid.list_of_rows k52 (fun x => x.f0.size ≤ maxLen ∧ (Lit.int .i64 x.f1).wf = true ∧ (Lit.int .i64 x.f2).wf = true) w b len (by unfold maxLen at hm; omega) hrows
    exact ⟨l, rfl, hC, hl, by omega, hw⟩
set_option maxRecDepth 100000 in
theorem lifted (os : Os) (started : os.Started) (H : Type) (enc : TypeId × Value → H) :
    ReturnsInHanded {} Try.checked os 3 .any (Rows.fnExactPodsOkSpec.pre6 enc Try.prog Try.f3 Rows.fnExactPodsOkRow.domain false) (Rows.fnExactPodsOkSpec.post enc Try.prog Try.f3 false true false false) := by
  refine returnsInHanded_of_change_sized (C := Try.checked) own started (by kernel_rfl) Try.func3
    (ChangeSpec.witness6 (enc := enc) (C := Try.checked) false ⟨#[], #[.slice none 0 0], []⟩ 8 (by kernel_rfl) (by kernel_rfl) (by kernel_rfl) (by kernel_rfl)) ?_
  intro W base args ds gs before hval0 hW hcnd hsz0 _
  have hsz : (DataW.weightsEach Try.prog (Try.f3.params.toList ++ Rows.fnExactPodsOkSpec.plain.varTypes Try.prog) (ds ++ gs)).all (· ≤ reachBytes) = true := hsz0
  have hval : ∀ (j : Nat) t v, Try.f3.params[j]? = some t → args[j]? = some v → Value.okWide Try.prog W .any base t v := hval0
  have hW' := hW
  obtain ⟨p, q, hA0, hV, rfl, hfz, hnd⟩ := hW
  have hA : DataW.TrodAll enc Try.prog W 0 (fun _ => true) true Try.f3.params.toList args.toList ds p := hA0
  rw [Try.params3] at hA hval hsz
  obtain ⟨v0, vs0, d0, ds0, p0, q0, hargs, rfl, rfl, h0, r0⟩ := trodAll_cons hA
  obtain ⟨rfl, rfl, rfl⟩ := trodAll_nil r0
  obtain rfl : args = #[v0] := by cases args; simp_all
  obtain ⟨rfl, rfl⟩ := trodVars_none hV
  have k0 := h0
  have lt0 : ∀ x ∈ p0, x.block < W.heap.size := by obtain ⟨m, hm⟩ := k0; exact DataW.trod_lt m _ _ _ hm
  obtain ⟨A0, len0, cap0, rfl⟩ := okWide_slice Try.underlying22 (hval 0 22 v0 rfl rfl)
  obtain ⟨fu0, hf0⟩ := h0
  obtain ⟨l0, rfl, hr0, hc0, hm0, w0⟩ := open_Pods (by simpa [Value.cells] using hf0)
  clear hA0 hval0 hsz0 hsz
  obtain ⟨k, hk⟩ := Pure.FnExactPodsOk l0 hm0 w0
  refine (PFnExactPodsOk.laws_FnExactPodsOk.calls k _ _ l0 true W hr0 hc0 hk).mono fun e W' ⟨he, bel⟩ => ?_
  subst he
  exact ⟨_, rfl, _, _, _, [], _, [], hW', trodAll_mk1 (shut_bool Try.underlying4 _), (trodAll_cons_mk (Below.trod laidOut (by kernel_rfl) (of_decide_eq_true (by kernel_rfl)) k0 bel lt0) trodAll_mk0), rfl, bel.frame _, fun h => by cases h⟩
theorem over : Rows.fnExactPodsOkRow.holds Try.pinned (OpenSpec.ofChange Rows.fnExactPodsOkSpec) :=
  OpenClaim.holds_of_wide 3 Try.f3 rfl rfl rfl rfl rfl rfl rfl ⟨rfl, rfl, rfl, rfl, rfl⟩ rfl rfl rfl rfl rfl (by kernel_rfl) Try.func3 (by kernel_rfl)
    (of_decide_eq_true (by kernel_rfl)) (by unfold Func.isWrapper; first | (rw [if_pos (by decide +kernel)]; kernel_rfl) | (rw [if_neg (by decide +kernel)]; exact ⟨rfl, rfl⟩))
    (fun os started H enc _ => lifted os started H enc)
theorem proved : Rows.FnExactPodsOkSaid := over
end Go.Proofs.Ytpoabjpglfbolaa.fnExactPodsOk
namespace Go.Proofs.Ytpoabjpglfbolaa
/-- The row, under a short name, for the claim. -/
theorem fnExactPodsOk_holds : Rows.FnExactPodsOkSaid := fnExactPodsOk.proved
#print axioms fnExactPodsOk_holds
end Go.Proofs.Ytpoabjpglfbolaa
