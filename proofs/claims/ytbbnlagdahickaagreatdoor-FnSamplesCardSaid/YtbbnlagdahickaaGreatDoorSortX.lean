/- The walks of stableCmpFunc and of slices.SortStableFunc at structs, over a variable program. Conditions: those at each theorem. -/
import Derived.Test.YtbbnlagdahickaaGreatDoorSortW
namespace Go.Proofs.YtbbnlagdahickaaGreatDoor.SortW
open Go.Shelf Go.RowKit Go.Lib Go.Sort Go.Proofs.YtbbnlagdahickaaGreatDoor.Stable Go.Proofs
set_option linter.unusedVariables false
variable {P : Program} {α : Type} [Inhabited α]

theorem ins_size (lt : α → α → Bool) (d : Array α) (a b : Nat) : (insertionSort lt d a b).size = d.size := by
  have inner : ∀ (a j : Nat) (d : Array α), (insInner lt a j d).size = d.size := by
    intro a j
    induction j with
    | zero => intro d; rfl
    | succ j ih =>
      intro d
      rw [insInner]
      split
      · rw [ih, size_swp]
      · rfl
  have outer : ∀ (a b n i : Nat) (d : Array α), b - i ≤ n → (insOuter lt a b i d).size = d.size := by
    intro a b n
    induction n with
    | zero => intro i d h; rw [insOuter, if_neg (by omega)]
    | succ n ih =>
      intro i d h
      rw [insOuter]
      by_cases c : i < b
      · rw [if_pos c, ih _ _ (by omega), inner]
      · rw [if_neg c]
  exact outer a b _ _ d (Nat.le_refl _)
theorem stableA_size (lt : α → α → Bool) (n : Nat) (d : Array α) : (stableA lt n d).size = d.size := by
  have blk : ∀ (r a : Nat) (d : Array α), n + 20 - a ≤ r → (blk1 lt n a d).size = d.size := by
    intro r
    induction r with
    | zero => intro a d h; rw [blk1, if_neg (by omega), ins_size]
    | succ r ih =>
      intro a d h
      rw [blk1]
      by_cases c : a + 20 ≤ n
      · rw [if_pos c, ih _ _ (by omega), ins_size]
      · rw [if_neg c, ins_size]
  have ps : ∀ (s r a : Nat) (d : Array α), n + 1 - a ≤ r → (pass lt s n a d).size = d.size := by
    intro s r
    induction r with
    | zero =>
      intro a d h
      rw [pass]
      by_cases c0 : s = 0
      · rw [dif_pos c0]
      · rw [dif_neg c0, if_neg (by omega), if_neg (by omega)]
    | succ r ih =>
      intro a d h
      rw [pass]
      by_cases c0 : s = 0
      · rw [dif_pos c0]
      · rw [dif_neg c0]
        by_cases c : a + 2 * s ≤ n
        · rw [if_pos c, ih _ _ (by omega), symM_size]
        · rw [if_neg c]
          by_cases c2 : a + s < n
          · rw [if_pos c2, symM_size]
          · rw [if_neg c2]
  have pp : ∀ (r s : Nat) (d : Array α), n - s ≤ r → (passes lt s n d).size = d.size := by
    intro r
    induction r with
    | zero =>
      intro s d h
      rw [passes]
      by_cases c0 : s = 0
      · rw [dif_pos c0]
      · rw [dif_neg c0, if_neg (by omega)]
    | succ r ih =>
      intro s d h
      rw [passes]
      by_cases c0 : s = 0
      · rw [dif_pos c0]
      · rw [dif_neg c0]
        by_cases c : s < n
        · rw [if_pos c, ih _ _ (by omega), ps _ _ _ _ (Nat.le_refl _)]
        · rw [if_neg c]
  unfold stableA
  rw [pp _ _ _ (Nat.le_refl _), blk _ _ _ (Nat.le_refl _)]
set_option maxHeartbeats 8000000 in
set_option maxRecDepth 1000000 in
/-- stableCmpFunc: the row holds 'stableA'. -/
theorem stable (k : Nat) (L : SL P k) (enc : α → List Value) (cf : α → α → Int) (g : Nat) (cb : Array Value) (blk off cap : Nat) (d0 : Array α) (w0 : World)
    (eg : ∀ args w, (callFunc g args).run P w = .ok (.enter g args) w) (hcmp : CmpLays P g cb enc k cf blk off d0.size w0) (R : RowK enc k w0 blk off d0) (hsz : d0.size < 1000000000000)
    (e75 : ∀ args w, (callFunc 75 args).run P w = .ok (.enter 75 args) w)
    (INS : ∀ (d : Array α) (a b : Nat) (w : World), d0.size = d.size → SWK enc k w0 blk off d w → a ≤ b → b ≤ d.size →
      Calls P 75 #[.slice (some ⟨blk, off, none⟩) d.size cap, .int .i64 a, .int .i64 b, .func (.func g) #[] cb] w fun e w' => e = .returned (.tuple #[]) ∧ SWK enc k w0 blk off (insertionSort (ltOf cf) d a b) w')
    (d : Array α) (w : World) (hs : d0.size = d.size) (S : SWK enc k w0 blk off d w) :
    Calls P 53 #[.slice (some ⟨blk, off, none⟩) d.size cap, .int .i64 d.size, .func (.func g) #[] cb] w fun e w' => e = .returned (.tuple #[]) ∧ SWK enc k w0 blk off (stableA (ltOf cf) d.size d) w' := by
  have e76 : ∀ args w, (callFunc 76 args).run P w = .ok (.enter 76 args) w := enters_of L.f76 (by kernel_rfl) rfl
  have MG := fun (f : Nat) (dk : Array α) (a m b : Nat) (W : World) (hk : dk.size = d.size) (SK : SWK enc k w0 blk off dk W) (h1 : a < m) (h2 : m < b) (h3 : b ≤ d.size) (h4 : b - a ≤ f) => by
    have h := symMerge k L enc cf g cb blk off cap d0 w0 eg hcmp R hsz f dk a m b W (by omega) SK h1 h2 (by omega) h4
    rw [hk] at h
    exact h
  have IS := fun (dk : Array α) (a b : Nat) (W : World) (hk : dk.size = d.size) (SK : SWK enc k w0 blk off dk W) (h1 : a ≤ b) (h2 : b ≤ d.size) => by
    have h := INS dk a b W (by omega) SK h1 (by omega)
    rw [hk] at h
    exact h
  have mixed := L.mixed; have t0 := L.t0; have a0 := L.a0; have z0 := L.z0; have v0 := L.v0; have t3 := L.t3; have a3 := L.a3; have z3 := L.z3; have v3 := L.v3; have t4 := L.t4; have a4 := L.a4; have z4 := L.z4; have v4 := L.v4; have t24 := L.t24; have a24 := L.a24; have z24 := L.z24; have v24 := L.v24; have t47 := L.t47; have a47 := L.a47; have z47 := L.z47; have v47 := L.v47; have aE := L.aE; have zE := L.zE; have t100 := L.t100; have a100 := L.a100; have z100 := L.z100; have v100 := L.v100
  have S0 : Aside (SWK enc k w0 blk off d w) := S
  clear hcmp S INS
  obtain ⟨n, hn⟩ : ∃ n, n = d.size := ⟨_, rfl⟩
  have hsn : n < 1000000000000 := by omega
  rw [← hn]
  rw [← hn] at MG IS
  obtain ⟨res, hres⟩ : ∃ r, r = stableA (ltOf cf) n d := ⟨_, rfl⟩
  rw [← hres]
  have HRES : Hid (res = passes (ltOf cf) 20 n (blk1 (ltOf cf) n 0 d)) := hres
  clear hres
  have HN : Hid (n = d.size) := hn
  clear hn
  go_enter L.f53, Tryz.ntmps53
  go_wp2
  go_loopg [7, 8] (n + 20) (fun kx s7 s8 wr => ∃ (a b : Nat) (dk : Array α), s7 = .int .i64 a ∧ s8 = .int .i64 b ∧ b = a + 20 ∧ a ≤ n ∧ n + 20 - a ≤ kx ∧ dk.size = n ∧ Aside (SWK enc k w0 blk off dk wr) ∧ Hid (blk1 (ltOf cf) n a dk = blk1 (ltOf cf) n 0 d))
  case atStart => exact ⟨0, 20, d, rfl, rfl, rfl, by omega, by omega, HN.out.symm, S0, rfl⟩
  case round =>
    clear S0
    obtain ⟨a, b, dk, rfl, rfl, hab, han, hkx, hds, S1, HB⟩ := hrel
    have HB2 := HB.out
    rw [blk1] at HB2
    clear HB
    by_cases hlt : b ≤ n
    · have hltz : (b : Int) ≤ (n : Int) := by omega
      rw [if_pos (by omega), show a + 20 = b by omega] at HB2
      have HB3 : Hid _ := HB2
      clear HB2
      have I1 := fun W (SK : SWK enc k w0 blk off dk W) => IS dk a b W hds SK (by omega) hlt
      have hAB : Hid (b = a + 20) := hab
      clear hab
      go_wp2_with (go_at_fn 75; refine (I1 _ S1.out).mono ?_; rintro e' w2 ⟨rfl, S2⟩)
      have hab := hAB.out
      go_roundg (n + 20 - b)
      case measure => omega
      case rel => exact ⟨b, b + 20, _, rfl, by go_num, rfl, by omega, Nat.le_refl _, (ins_size _ _ _ _).trans hds, S2, HB3⟩
    · have hltz : ¬ (b : Int) ≤ (n : Int) := by omega
      rw [if_neg (by omega)] at HB2
      have HB3 : Hid _ := HB2
      clear HB2
      have I1 := fun W (SK : SWK enc k w0 blk off dk W) => IS dk a n W hds SK han (Nat.le_refl _)
      clear hab
      go_wp2_with (go_at_fn 75; refine (I1 _ S1.out).mono ?_; rintro e' w2 ⟨rfl, S2⟩)
      clear I1 S1 IS
      have hs1 : (insertionSort (ltOf cf) dk a n).size = n := (ins_size _ _ _ _).trans hds
      have HQ : Hid (passes (ltOf cf) 20 n (insertionSort (ltOf cf) dk a n) = res) := (congrArg _ HB3.out).trans HRES.out.symm
      clear HB3 HRES
      generalize insertionSort (ltOf cf) dk a n = d1 at S2 HQ hs1
      go_loopg [6, 7, 8, 9] n (fun kx s6 s7 s8 s9 wr => ∃ (s : Nat) (dk : Array α), s6 = .int .i64 s ∧ 0 < s ∧ s < 4000000000000 ∧ n - s ≤ kx ∧ dk.size = n ∧ Aside (SWK enc k w0 blk off dk wr) ∧ Hid (passes (ltOf cf) s n dk = res))
      case atStart => exact ⟨20, d1, rfl, by omega, by omega, by omega, hs1, S2, HQ⟩
      case round =>
        clear S2 HQ hs1 hkx hds
        obtain ⟨s, dj, rfl, hs0, hs9, hky, hdj, S1, HP⟩ := hrel
        have HP2 := HP.out
        rw [passes, dif_neg (by omega)] at HP2
        clear HP
        by_cases hsn2 : s < n
        · have hsz2 : (s : Int) < (n : Int) := by omega
          rw [if_pos hsn2] at HP2
          obtain ⟨s2, hs2⟩ : ∃ x, 2 * s = x := ⟨_, rfl⟩
          rw [hs2] at HP2
          have HP3 : Hid _ := HP2
          clear HP2
          have es : (2 : Int) * (s : Int) = (s2 : Int) := by omega
          have es' : (s : Int) * 2 = (s2 : Int) := by omega
          have hss : Hid (2 * s = s2) := hs2
          clear hs2
          have hs3 : s < s2 ∧ s2 < 4000000000000 := by have := hss.out; omega
          go_wp2
          go_loopg [7, 8] (n + 1) (fun kz s7 s8 wr => ∃ (a b : Nat) (dk : Array α), s7 = .int .i64 a ∧ s8 = .int .i64 b ∧ b = a + s2 ∧ a ≤ n ∧ n - a < kz ∧ dk.size = n ∧ Aside (SWK enc k w0 blk off dk wr) ∧ Hid (pass (ltOf cf) s n a dk = pass (ltOf cf) s n 0 dj))
          case atStart => exact ⟨0, s2, dj, rfl, rfl, by omega, by omega, by omega, hdj, S1, rfl⟩
          case round =>
            clear S1
            obtain ⟨a, b, dk, rfl, rfl, hab, han, hkz, hds, S1, HB⟩ := hrel
            have HB2 := HB.out
            have hss2 := hss.out
            rw [pass, dif_neg (by omega), hss2, ← hab] at HB2
            clear HB
            obtain ⟨mm, hmm⟩ : ∃ x, a + s = x := ⟨_, rfl⟩
            rw [hmm] at HB2
            have em : (a : Int) + (s : Int) = (mm : Int) := by omega
            have hb0 : a < mm ∧ mm < b ∧ b - a ≤ s2 ∧ a < b := by omega
            by_cases hlt : b ≤ n
            · have hltz : (b : Int) ≤ (n : Int) := by omega
              rw [if_pos hlt] at HB2
              have HB3 : Hid _ := HB2
              have M1 := fun W (SK : SWK enc k w0 blk off dk W) => MG s2 dk a mm b W hds SK hb0.1 hb0.2.1 hlt hb0.2.2.1
              clear HB2 hmm hss2
              have hAB : Hid (b = a + s2) := hab
              clear hab
              go_wp2_with (go_at_fn 76; refine (M1 _ S1.out).mono ?_; rintro e' w3 ⟨rfl, S3⟩)
              have hab := hAB.out
              go_roundg (n - b + 1)
              case measure => omega
              case rel => exact ⟨b, b + s2, _, rfl, by go_num, rfl, by omega, by omega, (symM_size _ _ _ _ _ _).trans hds, S3, HB3⟩
            · have hltz : ¬ (b : Int) ≤ (n : Int) := by omega
              rw [if_neg hlt] at HB2
              by_cases hmn : mm < n
              · have hmnz : (mm : Int) < (n : Int) := by omega
                rw [if_pos hmn] at HB2
                have HB3 : Hid _ := HB2
                have M1 := fun W (SK : SWK enc k w0 blk off dk W) => MG s2 dk a mm n W hds SK hb0.1 hmn (Nat.le_refl _) (by omega)
                clear HB2 hmm hss2 hab
                go_wp2_with (go_at_fn 76; refine (M1 _ S1.out).mono ?_; rintro e' w3 ⟨rfl, S3⟩)
                go_roundg (n - s2)
                case measure => omega
                case rel => exact ⟨s2, _, rfl, by omega, by omega, Nat.le_refl _, (symM_size _ _ _ _ _ _).trans hds, S3, (congrArg _ HB3.out).trans HP3.out⟩
              · have hmnz : ¬ (mm : Int) < (n : Int) := by omega
                rw [if_neg hmn] at HB2
                have HB3 : Hid _ := HB2
                clear HB2 hmm hss2 hab
                go_wp2
                go_roundg (n - s2)
                case measure => omega
                case rel => exact ⟨s2, dk, rfl, by omega, by omega, Nat.le_refl _, hds, S1, (congrArg _ HB3.out).trans HP3.out⟩
        · have hsz2 : ¬ (s : Int) < (n : Int) := by omega
          rw [if_neg hsn2] at HP2
          go_wp2
          go_end0
          exact ⟨rfl, by rw [← HP2]; exact S1.out⟩
set_option maxHeartbeats 4000000 in
/-- slices.SortStableFunc at structs. -/
theorem sortStable (k : Nat) (L : SL P k) (enc : α → List Value) (cf : α → α → Int) (g : Nat) (cb : Array Value) (blk off cap : Nat) (d0 : Array α) (w0 : World)
    (eg : ∀ args w, (callFunc g args).run P w = .ok (.enter g args) w) (hcmp : CmpLays P g cb enc k cf blk off d0.size w0) (R : RowK enc k w0 blk off d0) (hsz : d0.size < 1000000000000)
    (e75 : ∀ args w, (callFunc 75 args).run P w = .ok (.enter 75 args) w)
    (INS : ∀ (d : Array α) (a b : Nat) (w : World), d0.size = d.size → SWK enc k w0 blk off d w → a ≤ b → b ≤ d.size →
      Calls P 75 #[.slice (some ⟨blk, off, none⟩) d.size cap, .int .i64 a, .int .i64 b, .func (.func g) #[] cb] w fun e w' => e = .returned (.tuple #[]) ∧ SWK enc k w0 blk off (insertionSort (ltOf cf) d a b) w')
    (d : Array α) (w : World) (hs : d0.size = d.size) (S : SWK enc k w0 blk off d w) :
    Calls P 22 #[.slice (some ⟨blk, off, none⟩) d.size cap, .func (.func g) #[] cb] w fun e w' => e = .returned (.tuple #[]) ∧ SWK enc k w0 blk off (stableA (ltOf cf) d.size d) w' := by
  have e53 : ∀ args w, (callFunc 53 args).run P w = .ok (.enter 53 args) w := enters_of L.f53 (by kernel_rfl) rfl
  have ST := stable k L enc cf g cb blk off cap d0 w0 eg hcmp R hsz e75 INS d w hs S
  have mixed := L.mixed; have t0 := L.t0; have a0 := L.a0; have z0 := L.z0; have v0 := L.v0; have t3 := L.t3; have a3 := L.a3; have z3 := L.z3; have v3 := L.v3; have t4 := L.t4; have a4 := L.a4; have z4 := L.z4; have v4 := L.v4; have t24 := L.t24; have a24 := L.a24; have z24 := L.z24; have v24 := L.v24; have t47 := L.t47; have a47 := L.a47; have z47 := L.z47; have v47 := L.v47; have aE := L.aE; have zE := L.zE; have t100 := L.t100; have a100 := L.a100; have z100 := L.z100; have v100 := L.v100
  clear hcmp S INS
  generalize stableA (ltOf cf) d.size d = r at ST ⊢
  go_enter L.f22, Tryz.ntmps22
  go_wp2_with (go_at_fn 53; refine ST.mono ?_; rintro e w' ⟨rfl, S2⟩)
  go_end0
  exact ⟨rfl, S2⟩
end Go.Proofs.YtbbnlagdahickaaGreatDoor.SortW
