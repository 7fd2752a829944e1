/- What slices.ContainsFunc with the closure of impl.ParseScrape answers. Conditions: the slice reads as the list, the captured sample lies in its block. -/
import Derived.Test.YtbbnlagdahickaaGreatDoorSortS
import Derived.Shelf.SlicesQ.IndexFunc
namespace Go.Proofs.YtbbnlagdahickaaGreatDoor.PFnSamples
open Go.RowKit Go.Proofs.YtbbnlagdahickaaGreatDoorW.PrintWords Go.Proofs.YtbbnlagdahickaaGreatDoorW.PrintLast Go.Proofs.YtbbnlagdahickaaGreatDoorW.PrintMore
open Go.Proofs
set_option linter.unusedVariables false
set_option linter.unusedSimpArgs false
/-- How slices.ContainsFunc and slices.IndexFunc are numbered in this program. -/
def ren8 : Go.Shelf.Ren := ⟨fun n => if n = 6 then 58 else if n = 8 then 29 else 0, fun n => if n = 0 then 0 else if n = 3 then 3 else if n = 4 then 4 else if n = 22 then 24 else if n = 23 then 35 else if n = 25 then 42 else 0, fun n => n⟩
theorem has_lay : SlLaysH0.n8 Tryz.prog ren8 where
  mixed := by kernel_rfl
  f6 := ⟨ "slices.IndexFunc[[]loop.example/g00808/impl.Sample,loop.example/g00808/impl.Sample]", by decide, Tryz.func58⟩
  f8 := ⟨ "slices.ContainsFunc[[]loop.example/g00808/impl.Sample,loop.example/g00808/impl.Sample]", by decide, Tryz.func29⟩
  t0 := Tryz.underlying0
  a0 := Tryz.isAgg0
  z0 := Tryz.sizeOf0
  v0 := Tryz.zeroValue0
  t3 := Tryz.underlying3
  a3 := Tryz.isAgg3
  z3 := Tryz.sizeOf3
  v3 := Tryz.zeroValue3
  t4 := Tryz.underlying4
  a4 := Tryz.isAgg4
  z4 := Tryz.sizeOf4
  v4 := Tryz.zeroValue4
  t22 := Tryz.underlying24
  a22 := Tryz.isAgg24
  z22 := Tryz.sizeOf24
  v22 := Tryz.zeroValue24
  t25 := Tryz.underlying42
  a25 := Tryz.isAgg42
  z25 := Tryz.sizeOf42
  v25 := Tryz.zeroValue42
def sameS (a b : ByteArray) (t : Int) (x : S35) : Bool := (x.f0.toList == a.toList) && ((x.f1.toList == b.toList) && (x.f3 == t))
/-- Whether a sample of the same pod, metric and time is there. -/
def hasS (l : List S35) (a b : ByteArray) (t : Int) : Bool := l.any (sameS a b t)
set_option maxRecDepth 100000 in
set_option maxHeartbeats 2000000 in
/-- The closure of impl.ParseScrape, s in the block gb. -/
theorem pred30 (gb : Nat) (a b : ByteArray) (v t : Int) (w : World) (hbx : w.heap[gb]? = some (.cells #[.string a, .string b, .int .i64 v, .int .i64 t] 35 (0, 0))) :
    PredBelow Tryz.prog 30 #[.pointer (some ⟨gb, 0, none⟩)] (fun x => .agg (encS x).toArray) (sameS a b t) w := fun W x hb => by
  have hg : gb < w.heap.size := (Array.getElem?_eq_some_iff.1 hbx).1
  have hbW : W.heap[gb]? = some (.cells #[.string a, .string b, .int .i64 v, .int .i64 t] 35 (0, 0)) := (hb.block gb hg).trans hbx
  have c0 : W.cell? ⟨gb, 0, none⟩ = some (.string a) := by simp [World.cell?, hbW]
  have c1 : W.cell? ⟨gb, 1, none⟩ = some (.string b) := by simp [World.cell?, hbW]
  have c3 : W.cell? ⟨gb, 3, none⟩ = some (.int .i64 t) := by simp [World.cell?, hbW]
  have hBW : gb < W.heap.size := Nat.lt_of_lt_of_le hg hb.size
  have hne : gb ≠ W.heap.size := by omega
  have HB : Aside0 (Below w.heap.size w (W.alloc (.cells #[.string x.f0, .string x.f1, .int .i64 x.f2, .int .i64 x.f3] 35 (0, 0)))) := ⟨hb.alloc hb.size _⟩
  clear hb hbx hbW hg
  show Calls Tryz.prog 30 #[.agg #[.string x.f0, .string x.f1, .int .i64 x.f2, .int .i64 x.f3], .pointer (some ⟨gb, 0, none⟩)] W _
  unfold sameS
  cases e0 : x.f0.toList == a.toList with
  | false =>
    go_enter Tryz.func30, Tryz.ntmps30
    go_wp2
    go_ret
    exact ⟨rfl, HB.out⟩
  | true =>
    cases e1 : x.f1.toList == b.toList with
    | false =>
      go_enter Tryz.func30, Tryz.ntmps30
      go_wp2
      go_ret
      exact ⟨rfl, HB.out⟩
    | true =>
      cases e3 : x.f3 == t with
      | false =>
        have e4 : ¬ x.f3 = t := by simpa using e3
        go_enter Tryz.func30, Tryz.ntmps30
        go_wp2
        go_ret
        exact ⟨rfl, HB.out⟩
      | true =>
        have e4 : x.f3 = t := by simpa using e3
        go_enter Tryz.func30, Tryz.ntmps30
        go_wp2
        go_ret
        have h5 := HB.out
        rw [e4] at h5
        exact ⟨rfl, h5⟩
theorem index_none (p : Option Addr) (c : Nat) (f : Value) (w : World) : Calls Tryz.prog 58 #[.slice p 0 c, f] w fun e w' => e = .returned (.int .i64 (-1)) ∧ w' = w := by
  go_enter Tryz.func58, Tryz.ntmps58
  go_wp2
  refine wp_loop_rounds 1 ?_
  rw [rounds_succ]
  go_wp2
  go_ret
  exact ⟨rfl, rfl⟩
theorem contains_none (p : Option Addr) (c : Nat) (f : Value) (w : World) : Calls Tryz.prog 29 #[.slice p 0 c, f] w fun e w' => e = .returned (.bool false) ∧ w' = w := by
  go_enter Tryz.func29, Tryz.ntmps29
  go_wp2_with (go_at_call 58; refine (index_none p c f _).mono ?_; rintro e w' ⟨rfl, rfl⟩)
  go_ret
  exact ⟨rfl, rfl⟩
def impl_Sample.f (l0 : List S35) (a1_0 : ByteArray) (a1_1 : ByteArray) (a1_2 : Int) (a1_3 : Int) : Option (Bool) := some (hasS l0 a1_0 a1_1 a1_3)
theorem impl_Sample.calls (gb : Nat) (A0 : Option Addr) (c0 : Nat) (l0 : List (S35)) (a1_0 : ByteArray) (a1_1 : ByteArray) (a1_2 : Int) (a1_3 : Int) (r : Bool) (w : World)
    (hbx : w.heap[gb]? = some (.cells #[.string a1_0, .string a1_1, .int .i64 a1_2, .int .i64 a1_3] 35 (0, 0))) (hr0 : Kd.C k35 w A0 l0.length l0) (hc0 : l0.length ≤ c0) (h : impl_Sample.f l0 a1_0 a1_1 a1_2 a1_3 = some r) :
    Calls Tryz.prog 29 #[.slice A0 l0.length c0, .func (.func 30) #[] #[.pointer (some ⟨gb, 0, none⟩)]] w fun e w' => e = .returned (.bool r) ∧ Below w.heap.size w w' := by
  obtain rfl := Option.some.inj h
  unfold hasS
  cases l0 with
  | nil =>
    refine (contains_none A0 c0 _ w).mono ?_
    rintro e w' ⟨rfl, rfl⟩
    exact ⟨rfl, Below.refl _ _⟩
  | cons x0 l1 =>
    obtain ⟨ad, rfl, hc⟩ := hr0.2.2 (by simp)
    have hcell : ∀ j, j < (x0 :: l1).length → ∀ i u, (encS (x0 :: l1)[j]!)[i]? = some u → w.cell? (ad.add (j * 4 + i)) = some u := by
      intro j hj i u hu
      obtain ⟨c, hcl, hK, hcc⟩ := hc j _ (List.getElem?_eq_getElem hj)
      obtain rfl := k35_open hK
      rw [getElem!_pos (x0 :: l1) j hj] at hu
      exact hcc i u hu
    have h00 := hcell 0 (by simp) 0 (.string x0.f0) rfl
    obtain ⟨bk, o, sp⟩ := ad
    have h01 : w.cell? ⟨bk, o, sp⟩ = some (.string x0.f0) := by simpa [Addr.add] using h00
    obtain rfl : sp = none := World.cell?_spot h01
    have hb : bk < w.heap.size := World.block_lt_of_cell? w _ h01
    have eg : ∀ args w, (callFunc 30 args).run Tryz.prog w = .ok (.enter 30 args) w := Go.Proofs.enters_of Tryz.func30 (by kernel_rfl) rfl
    have hcon := AnyQ.slices_ContainsFunc has_lay 4 Tryz.isAgg35 Tryz.sizeOf35 encS encS_len (sameS a1_0 a1_1 a1_3) 30 #[.pointer (some ⟨gb, 0, none⟩)] eg bk o (x0 :: l1).length c0 (x0 :: l1) w (pred30 gb a1_0 a1_1 a1_2 a1_3 w hbx) (Nat.le_refl _) hr0.2.1 hb (fun j hj i u hu => by
      have h2 := hcell j hj i u hu
      have e : (⟨bk, o, none⟩ : Addr).add (j * 4 + i) = ⟨bk, o + j * 4 + i, none⟩ := by
        unfold Addr.add
        by_cases hz : j * 4 + i = 0
        · have h1 : j = 0 := by omega
          have h3 : i = 0 := by omega
          subst h1 h3
          simp
        · simp [hz, Nat.add_assoc]
          omega
      rw [e] at h2
      exact h2)
    rw [List.take_length] at hcon
    exact hcon
end Go.Proofs.YtbbnlagdahickaaGreatDoor.PFnSamples
