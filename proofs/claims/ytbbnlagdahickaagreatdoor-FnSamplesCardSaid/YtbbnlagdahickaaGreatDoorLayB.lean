/- What the walks of the two readings take of the library's own variables ('LayB'), that it stays under growth, and contracts of strings.Split and of the program's atoi in the walks' own form. Conditions: those at each theorem. -/
import Derived.Test.YtbbnlagdahickaaGreatDoorShelf
import Derived.Test.YtbbnlagdahickaaGreatDoorLay
import Derived.Lib.SplitLaws
import Derived.Lib.AtoiAll
namespace Go.Proofs.YtbbnlagdahickaaGreatDoor
open Go.RowKit Go.Proofs.YtbbnlagdahickaaGreatDoorW.PrintWords
/-- The table of powers of ten as the text lays it; the two error variables hold errors; MaxLen holds a number. -/
structure LayB (w : World) : Prop where
  lay : Lay w
  len : ∃ m, w.cell? ⟨0, 0, none⟩ = some (.int .i64 m)
  e0 : ∃ t p, w.cell? ⟨1, 0, none⟩ = some (.iface t p)
  e1 : ∃ t p, w.cell? ⟨2, 0, none⟩ = some (.iface t p)
theorem LayB.up {w W : World} (h : LayB w) (hb : Below w.heap.size w W) : LayB W := by
  have st : ∀ (g : Nat) v, w.cell? ⟨g, 0, none⟩ = some v → W.cell? ⟨g, 0, none⟩ = some v := fun g v hv =>
    (hb.cell (p := ⟨g, 0, none⟩) (World.block_lt_of_cell? w _ hv)).trans hv
  obtain ⟨m, hm⟩ := h.len
  obtain ⟨t0, p0, h0⟩ := h.e0
  obtain ⟨t1, p1, h1⟩ := h.e1
  exact ⟨Lay.up h.lay hb, ⟨m, st _ _ hm⟩, ⟨t0, p0, st _ _ h0⟩, ⟨t1, p1, st _ _ h1⟩⟩
/-- Strings in a fresh block are a row of the call's own. -/
theorem own_fresh (w : World) (l : List ByteArray) (hl : l.length ≤ 9223372036854775807) :
    Kd.R Kd.string 9 (w.alloc (.cells (l.map Value.string).toArray 9)) w.heap.size (fun _ => True) (.slice (some ⟨w.heap.size, 0, none⟩) l.length l.length) l := by
  refine ⟨fun _ _ => trivial, l.map Value.string, ?_, ?_⟩
  · have h2 := World.ownsRow_lit (base := w.heap.size) (e := 9) (size := 1) w (l.map Value.string).toArray l.length (Nat.le_refl _) (by simpa [maxLen] using hl) (by simp)
    have e : Kd.string.sz = 1 := rfl
    rw [e]
    simpa using h2
  · refine ⟨by simp [show Kd.string.sz = 1 from rfl], fun j p hj => ?_⟩
    have hs : Kd.string.sz = 1 := rfl
    obtain ⟨hlt, rfl⟩ := List.getElem?_eq_some_iff.1 hj
    have e : ((l.map Value.string).drop (j * 1)).take 1 = [Value.string l[j]] := by
      rw [Nat.mul_one, List.drop_eq_getElem_cons (by simpa using hlt)]
      simp
    rw [hs, e]
    rfl
theorem LayB.split (s sep : ByteArray) (hs : s.size < 4294967281) (h1 : 1 ≤ sep.size) (w : World) (HT : LayB w) :
    Calls Tryz.prog 57 #[.string s, .string sep] w fun e w' => ∃ v0_ : Value, e = .returned (v0_) ∧ Kd.R Kd.string 9 w' w.heap.size (fun _ => True) v0_ (Lib.splitB sep 0 (Lib.countB s sep) s) ∧ Below w.heap.size w w' := by
  obtain ⟨m, hm⟩ := HT.len
  refine (Tryz.strings_Split s sep m w hs hm h1).mono ?_
  rintro e w' ⟨rfl, rfl⟩
  have hl := Lib.splitB_all sep h1 0 _ s rfl
  have hc := Lib.countB_le sep h1 _ s (Nat.le_refl _)
  refine ⟨_, rfl, ?_, below_alloc (Below.refl _ _) _⟩
  have h := own_fresh w (Lib.splitB sep 0 (Lib.countB s sep) s) (by omega)
  rw [hl] at h
  exact h
/-- The number that the program's atoi answers. -/
def atoiOf (s : ByteArray) : Int := match Lib.atoiAll s.data.toList with
  | .ok v => v
  | _ => 0
set_option maxRecDepth 100000 in
theorem LayB.atoi (s : ByteArray) (hlim : s.size ≤ 281474976710656) (w : World) (HT : LayB w) :
    Calls Tryz.prog 35 #[.string s] w fun e w' => e = .returned (.int .i64 (atoiOf s)) ∧ Below w.heap.size w w' := by
  obtain ⟨t0, p0, hv0⟩ := HT.e0
  obtain ⟨t1, p1, hv1⟩ := HT.e1
  rcases h : Lib.atoiAll s.data.toList with v | _ | _
  · have hr : atoiOf s = v := by simp only [atoiOf, h]
    rw [hr]
    go_enter Tryz.func35, Tryz.ntmps35
    go_wp2_with (go_at_call 64; refine (Tryz.strconv_Atoi_ok s (by omega) v h _).mono ?_; rintro e w' ⟨rfl, hw⟩)
    go_ret
    refine ⟨rfl, ?_⟩
    rcases hw with rfl | ⟨t, rfl⟩
    · exact Below.refl _ _
    · exact Lib.bytesWorld_below _ _ _
  · have hr : atoiOf s = 0 := by simp only [atoiOf, h]
    rw [hr]
    go_enter Tryz.func35, Tryz.ntmps35
    go_wp2_with (go_at_call 64; refine (Any.strconv_Atoi_syntax Tryz.laysC172 s hlim h _ _ ?_ (.inr ⟨t0, p0, rfl⟩)).mono ?_)
    · exact hv0
    rintro e W1 ⟨N, rfl, -, -, hb⟩
    go_wp2
    go_ret
    exact ⟨rfl, hb⟩
  · have hr : atoiOf s = 0 := by simp only [atoiOf, h]
    rw [hr]
    go_enter Tryz.func35, Tryz.ntmps35
    go_wp2_with (go_at_call 64; refine (Any.strconv_Atoi_range Tryz.laysC172 s hlim h _ _ ?_ (.inr ⟨t1, p1, rfl⟩)).mono ?_)
    · exact hv1
    rintro e W1 ⟨N, rfl, -, -, hb⟩
    go_wp2
    go_ret
    exact ⟨rfl, hb⟩
end Go.Proofs.YtbbnlagdahickaaGreatDoor
