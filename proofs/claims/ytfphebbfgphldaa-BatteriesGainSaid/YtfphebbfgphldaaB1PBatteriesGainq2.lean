import Derived.Test.YtfphebbfgphldaaB1PBatteriesGainq1
namespace Go.Proofs.Ytfphebbfgphldaa.PBatteriesGain
open Go.RowKit Go.Proofs.YtfphebbfgphldaaW.PrintWords Go.Proofs.YtfphebbfgphldaaW.PrintLast Go.Proofs.YtfphebbfgphldaaW.PrintMore Go.Proofs.Ytfphebbfgphldaa.MLib
set_option linter.unusedVariables false
set_option linter.unusedSimpArgs false
theorem chg_ge (L S q h u0 n : Int) (hq : h ≤ q) (h0 : 0 ≤ h) (hn : 0 ≤ n) (hu : 0 ≤ u0) : L + n * h ≤ chg L S q h u0 n := by
  unfold chg
  split
  · have hm : 0 ≤ mn n u0 := by unfold mn; split <;> omega
    have h1 : mn n u0 * h ≤ mn n u0 * q := Int.mul_le_mul_of_nonneg_left hq hm
    rw [Int.sub_mul]
    omega
  · omega
theorem half (p : Int) (hp : 0 ≤ p) (hp2 : p ≤ 1000000) : wrap64 (Int.tdiv (1000 * p) 2) = 500 * p := by
  rw [Int.tdiv_eq_ediv_of_nonneg (by omega), w_in _ (by omega)]
  omega
theorem after_ok (L S p full u0 long : Int) (hL : 0 ≤ L) (hL2 : L ≤ 3600000000000000) (hS2 : S ≤ 3600000000000000) (hp : 1 ≤ p) (hp2 : p ≤ 1000000) (hu : 0 ≤ u0) (he : L < S → fleet_up.f (S - L) (1000 * p) = some u0) (h0 : 0 ≤ long) (h1 : long ≤ 2592000000) :
    fleet_battery_after.f L S full (1000 * p) long = some (mn full (chg L S (1000 * p) (500 * p) u0 long)) := by
  unfold fleet_battery_after.f
  have hb : long * (1000 * p) ≤ 2592000000 * 1000000000 := (mul_bd h0 h1 (by omega) (by omega)).2
  have hb0 : 0 ≤ long * (1000 * p) := Int.mul_nonneg h0 (by omega)
  rw [half p (by omega) hp2]
  by_cases hlt : L < S
  · have hm : 0 ≤ mn long u0 ∧ mn long u0 ≤ long := by unfold mn; split <;> omega
    have h2 : mn long u0 * (1000 * p) ≤ 2592000000 * 1000000000 := (mul_bd hm.1 (by omega) (by omega) (by omega)).2
    have h3 : 0 ≤ mn long u0 * (1000 * p) := Int.mul_nonneg hm.1 (by omega)
    have h4 : (long - mn long u0) * (500 * p) ≤ 2592000000 * 500000000 := (mul_bd (by omega) (by omega) (by omega) (by omega)).2
    have h5 : 0 ≤ (long - mn long u0) * (500 * p) := Int.mul_nonneg (by omega) (by omega)
    have hc : chg L S (1000 * p) (500 * p) u0 long = L + mn long u0 * (1000 * p) + (long - mn long u0) * (500 * p) := by unfold chg; rw [if_pos hlt]
    rw [if_pos hlt, w_in (S - L) (by omega), he hlt, hc]
    simp only [Option.bind_some]
    rw [w_in (mn long u0 * (1000 * p)) (by omega), w_in (long - mn long u0) (by omega), w_in ((long - mn long u0) * (500 * p)) (by omega), w_in (L + mn long u0 * (1000 * p)) (by omega), w_in _ (by omega)]
  · have h5 : 0 ≤ long * (500 * p) := Int.mul_nonneg h0 (by omega)
    have h4 : long * (500 * p) ≤ 2592000000 * 500000000 := (mul_bd h0 h1 (by omega) (by omega)).2
    rw [if_neg hlt, w_in (long * (500 * p)) (by omega), w_in _ (by omega)]
    unfold chg
    rw [if_neg hlt]
/-- What a battery needs: the first moment at which it has enough. -/
theorem bneeds_ok (L S p full u0 W : Int) (hL : 0 ≤ L) (hL2 : L ≤ 3600000000000000) (hS2 : S ≤ 3600000000000000) (hW : 0 ≤ W) (hW2 : W ≤ 3600000000000000) (hp : 1 ≤ p) (hp2 : p ≤ 1000000) (hu : 0 ≤ u0) (he : L < S → fleet_up.f (S - L) (1000 * p) = some u0) (hk : L < S → ∀ n, S - L ≤ n * (1000 * p) ↔ u0 ≤ n) (kk : Nat) :
    ∃ N, fleet_battery_needs.f (kk + 1) L S full (1000 * p) W = some N ∧ 0 ≤ N ∧ N ≤ 7200000000000 ∧ ∀ n, 0 ≤ n → (W ≤ chg L S (1000 * p) (500 * p) u0 n ↔ N ≤ n) := by
  suffices hh : ∃ N, fleet_battery_needs.f (kk + 1) L S full (1000 * p) W = some N ∧ 0 ≤ N ∧ ∀ n, 0 ≤ n → (W ≤ chg L S (1000 * p) (500 * p) u0 n ↔ N ≤ n) by
    obtain ⟨N, h1, h2, h3⟩ := hh
    refine ⟨N, h1, h2, (h3 7200000000000 (by omega)).1 ?_, h3⟩
    have := chg_ge L S (1000 * p) (500 * p) u0 7200000000000 (by omega) (by omega) (by omega) hu
    omega
  have hge := fun n hn => chg_ge L S (1000 * p) (500 * p) u0 n (by omega) (by omega) hn hu
  unfold fleet_battery_needs.f
  by_cases hlt : L < S
  · rw [if_pos hlt]
    have hc : ∀ n, chg L S (1000 * p) (500 * p) u0 n = L + mn n u0 * (1000 * p) + (n - mn n u0) * (500 * p) := fun n => by unfold chg; rw [if_pos hlt]
    by_cases hw : L < W
    · rw [decide_eq_true hw]
      rw [fleet_battery_needs.j0]
      rw [if_pos rfl, w_in (S - L) (by omega), he hlt]
      simp only [Option.bind_some]
      obtain ⟨u1, e1, g1, k1, b1⟩ := over_ok (W - L) (1000 * p) (by omega) (by omega) (by omega) (by omega)
      rw [w_in (W - L) (by omega), up_ok _ _ (by omega) (by omega) (by omega) (by omega), e1]
      simp only [Option.bind_some]
      have hmm : 0 ≤ mn u0 u1 ∧ mn u0 u1 ≤ u1 ∧ mn u0 u1 ≤ u0 ∧ (mn u0 u1 = u1 ∨ mn u0 u1 = u0 ∧ u0 < u1) := by unfold mn; split <;> omega
      have hb1 : mn u0 u1 * (1000 * p) ≤ 3600000000000000 + 1000 * p := by
        by_cases hz : mn u0 u1 = 0
        · rw [hz]; omega
        · have h5 : ¬ W - L ≤ (mn u0 u1 - 1) * (1000 * p) := by rw [k1]; omega
          rw [Int.sub_mul] at h5
          omega
      have hb0 : 0 ≤ mn u0 u1 * (1000 * p) := Int.mul_nonneg hmm.1 (by omega)
      rw [w_in (mn u0 u1 * (1000 * p)) (by omega), w_in (L + mn u0 u1 * (1000 * p)) (by omega)]
      rcases hmm.2.2.2 with hu1 | ⟨hu0, hlt2⟩
      · rw [hu1]
        have h6 := (k1 u1).2 (Int.le_refl _)
        rw [if_neg (by omega)]
        refine ⟨u1, rfl, g1, fun n hn => ?_⟩
        rw [hc]
        by_cases hn0 : n ≤ u0
        · have e3 : mn n u0 = n := by unfold mn; split <;> omega
          rw [e3, Int.sub_self, Int.zero_mul]
          have := k1 n
          omega
        · have e3 : mn n u0 = u0 := by unfold mn; split <;> omega
          rw [e3]
          have h7 := (k1 u0).2 (by omega)
          have h8 : 0 ≤ (n - u0) * (500 * p) := Int.mul_nonneg (by omega) (by omega)
          omega
      · rw [hu0]
        rw [hu0] at hb1 hb0
        have h6 : ¬ W - L ≤ u0 * (1000 * p) := by rw [k1]; omega
        rw [if_pos (by omega), half p (by omega) hp2]
        obtain ⟨u2, e2, g2, k2, b2⟩ := over_ok (W - (L + u0 * (1000 * p))) (500 * p) (by omega) (by omega) (by omega) (by omega)
        rw [w_in (W - (L + u0 * (1000 * p))) (by omega), up_ok _ _ (by omega) (by omega) (by omega) (by omega), e2]
        simp only [Option.bind_some]
        have hu1b := b1
        rw [w_in (u0 + u2) (by omega)]
        refine ⟨u0 + u2, rfl, by omega, fun n hn => ?_⟩
        have h9 : ¬ u2 ≤ 0 := by rw [← k2]; omega
        rw [hc]
        by_cases hn0 : n ≤ u0
        · have e3 : mn n u0 = n := by unfold mn; split <;> omega
          rw [e3, Int.sub_self, Int.zero_mul]
          have h10 := k1 n
          omega
        · have e3 : mn n u0 = u0 := by unfold mn; split <;> omega
          rw [e3]
          have := k2 (n - u0)
          omega
    · rw [decide_eq_false hw]
      rw [fleet_battery_needs.j0]
      rw [if_neg (by decide), if_neg hw]
      refine ⟨0, rfl, by omega, fun n hn => ⟨fun _ => hn, fun _ => ?_⟩⟩
      have := hge n hn
      have h8 : 0 ≤ n * (500 * p) := Int.mul_nonneg hn (by omega)
      omega
  · rw [if_neg hlt]
    rw [fleet_battery_needs.j0]
    rw [if_neg (by decide)]
    have hc : ∀ n, chg L S (1000 * p) (500 * p) u0 n = L + n * (500 * p) := fun n => by unfold chg; rw [if_neg hlt]
    by_cases hw : L < W
    · rw [if_pos hw, half p (by omega) hp2, w_in (W - L) (by omega)]
      obtain ⟨u2, e2, g2, k2, b2⟩ := over_ok (W - L) (500 * p) (by omega) (by omega) (by omega) (by omega)
      rw [up_ok _ _ (by omega) (by omega) (by omega) (by omega), e2]
      simp only [Option.bind_some]
      rw [Int.zero_add, w_in u2 (by omega)]
      refine ⟨u2, rfl, g2, fun n hn => ?_⟩
      rw [hc]
      have := k2 n
      omega
    · rw [if_neg hw]
      refine ⟨0, rfl, by omega, fun n hn => ⟨fun _ => hn, fun _ => ?_⟩⟩
      rw [hc]
      have h8 : 0 ≤ n * (500 * p) := Int.mul_nonneg hn (by omega)
      omega
theorem lt_gain (F want c : Int) (hw : want ≤ F) : mn F (c / 3600000000) < want ↔ ¬ want * 3600000000 ≤ c := by
  have h1 : want ≤ c / 3600000000 ↔ want * 3600000000 ≤ c := Int.le_ediv_iff_mul_le (by omega)
  unfold mn
  split <;> omega
theorem needs_l1 (k1 k2 : ByteArray) (F least pv sl plugs pp level want N : Int) (hN0 : 0 ≤ N) (hN1 : N ≤ 7200000000000)
  (hg : ∀ n, 0 ≤ n → n ≤ 100000000000000 → ∃ t, jitref2_GainOf.f k1 F least pv sl k2 plugs pp level n = some t ∧ (t < want ↔ ¬ N ≤ n)) : ∀ (d : Nat) (low high : Int), 0 ≤ low → low ≤ N → N ≤ high → high ≤ 20000000000000 → high - low ≤ d → ∃ k, jitref2_NeedsOf.l1 k level want low high k1 F least pv sl k2 plugs pp = some N := by
  intro d
  induction d with
  | zero =>
    intro low high a b c e f
    refine ⟨1, ?_⟩
    unfold jitref2_NeedsOf.l1
    rw [if_neg (by omega)]
    congr 1
    omega
  | succ d ih =>
    intro low high a b c e f
    by_cases hlt : low < high
    · have em : wrap64 (Int.tdiv (wrap64 (low + high)) 2) = (low + high) / 2 := by
        rw [w_in (low + high) (by omega), Int.tdiv_eq_ediv_of_nonneg (by omega), w_in _ (by omega)]
      obtain ⟨t, et, ht⟩ := hg ((low + high) / 2) (by omega) (by omega)
      by_cases hle : N ≤ (low + high) / 2
      · obtain ⟨k, hk⟩ := ih low ((low + high) / 2) a b hle (by omega) (by omega)
        refine ⟨k + 1, ?_⟩
        unfold jitref2_NeedsOf.l1
        rw [if_pos hlt, em, et]
        simp only [Option.bind_some]
        rw [if_pos (by omega)]
        exact hk
      · obtain ⟨k, hk⟩ := ih ((low + high) / 2 + 1) high (by omega) (by omega) c e (by omega)
        refine ⟨k + 1, ?_⟩
        unfold jitref2_NeedsOf.l1
        rw [if_pos hlt, em, et]
        simp only [Option.bind_some]
        rw [if_neg (by omega), w_in _ (by omega)]
        exact hk
    · refine ⟨1, ?_⟩
      unfold jitref2_NeedsOf.l1
      rw [if_neg hlt]
      congr 1
      omega
theorem needs_l0 (k1 k2 : ByteArray) (F least pv sl plugs pp level want N : Int) (hN0 : 0 ≤ N) (hN1 : N ≤ 7200000000000)
  (hg : ∀ n, 0 ≤ n → n ≤ 100000000000000 → ∃ t, jitref2_GainOf.f k1 F least pv sl k2 plugs pp level n = some t ∧ (t < want ↔ ¬ N ≤ n)) : ∀ (d : Nat) (high : Int), 1 ≤ high → high ≤ 20000000000000 → N - high ≤ d → ∃ k, jitref2_NeedsOf.l0 k level want 0 high k1 F least pv sl k2 plugs pp = some N := by
  intro d
  induction d with
  | zero =>
    intro high a b c
    obtain ⟨t, et, ht⟩ := hg high (by omega) (by omega)
    obtain ⟨k, hk⟩ := needs_l1 k1 k2 F least pv sl plugs pp level want N hN0 hN1 hg high.toNat 0 high (by omega) hN0 (by omega) b (by omega)
    refine ⟨k + 1, ?_⟩
    unfold jitref2_NeedsOf.l0
    rw [et]
    simp only [Option.bind_some]
    rw [if_neg (by omega)]
    exact hk
  | succ d ih =>
    intro high a b c
    obtain ⟨t, et, ht⟩ := hg high (by omega) (by omega)
    by_cases hle : N ≤ high
    · obtain ⟨k, hk⟩ := needs_l1 k1 k2 F least pv sl plugs pp level want N hN0 hN1 hg high.toNat 0 high (by omega) hN0 (by omega) b (by omega)
      refine ⟨k + 1, ?_⟩
      unfold jitref2_NeedsOf.l0
      rw [et]
      simp only [Option.bind_some]
      rw [if_neg (by omega)]
      exact hk
    · obtain ⟨k, hk⟩ := ih (high * 2) (by omega) (by omega) (by omega)
      refine ⟨k + 1, ?_⟩
      unfold jitref2_NeedsOf.l0
      rw [et]
      simp only [Option.bind_some]
      rw [if_pos (by omega), w_in (high * 2) (by omega)]
      exact hk
theorem needsOf_ok (k1 k2 : ByteArray) (F least pv sl plugs pp level want N : Int) (hN0 : 0 ≤ N) (hN1 : N ≤ 7200000000000)
  (hg : ∀ n, 0 ≤ n → n ≤ 100000000000000 → ∃ t, jitref2_GainOf.f k1 F least pv sl k2 plugs pp level n = some t ∧ (t < want ↔ ¬ N ≤ n)) : ∃ k, jitref2_NeedsOf.f k k1 F least pv sl k2 plugs pp level want = some N :=
  needs_l0 k1 k2 F least pv sl plugs pp level want N hN0 hN1 hg N.toNat 1 (by omega) (by omega) (by omega)
/-- The first of two errors. -/
def fst2 (a b : Int) : Int := if a = 0 then b else a
theorem first2_ok (a b : Int) : base_First.f 500 [a, b] = some (fst2 a b) := by
  unfold fst2 base_First.f
  by_cases ha : a = 0 <;> by_cases hb : b = 0 <;> simp [base_First.l0, rd, rdOf, w_in, ha, hb]
theorem errs2_ok (a b : Int) : jitlaw2_errs.f 500 [a, b] = some (fst2 a b) := by
  unfold fst2 jitlaw2_errs.f
  by_cases ha : a = 0 <;> by_cases hb : b = 0 <;> simp [jitlaw2_errs.l0, rd, rdOf, w_in, ha, hb]
theorem errs3_ok (a b c : Int) : jitlaw2_errs.f 500 [a, b, c] = some (fst2 a (fst2 b c)) := by
  unfold fst2 jitlaw2_errs.f
  by_cases ha : a = 0 <;> by_cases hb : b = 0 <;> by_cases hc : c = 0 <;> simp [jitlaw2_errs.l0, rd, rdOf, w_in, ha, hb, hc]
theorem when_ok (a : Bool) (b : Int) : jitlaw2_when.f a b = some (if a = true then b else 0) := by
  unfold jitlaw2_when.f
  split <;> rfl
def outB (x a b : Int) : Bool := !(decide (a ≤ x ∧ x ≤ b))
theorem out_b (x a b : Int) : base_Out.f x a b = some (outB x a b) := out_f x a b
def one (v : S34) (p : S37) : Int := fst2 (vspec ⟨#[]⟩ [v]) (pspec ⟨#[]⟩ [p])
def gfault (v : S34) (p : S37) (level : Int) : Int := fst2 (vspec ⟨#[]⟩ [v]) (fst2 (pspec ⟨#[]⟩ [p]) (if outB level 0 v.f1 = true then 1 else 0))
theorem oneFault_ok (v : S34) (p : S37) (hv : v.f0.size ≤ 40) (hp : p.f0.size ≤ 40) : fleet_oneFault.f 500 v.f0 v.f1 v.f2 v.f3 v.f4 p.f0 p.f1 p.f2 = some (one v p) := by
  unfold fleet_oneFault.f
  have e1 := checkVehicles_ok [v] (by simpa using hv) (by simp)
  have e2 := checkPlaces_ok [p] (by simpa using hp) (by simp)
  rw [show ([(⟨v.f0, v.f1, v.f2, v.f3, v.f4⟩ : S34)] : List S34) = [v] from rfl, e1, show ([(⟨p.f0, p.f1, p.f2⟩ : S37)] : List S37) = [p] from rfl]
  simp only [Option.bind_some]
  rw [e2]
  simp only [Option.bind_some]
  rw [first2_ok]
  rfl
theorem vspec_0 {v : S34} (h : vspec ⟨#[]⟩ [v] = 0) : vbad v = false := by
  unfold vspec at h
  split at h
  · omega
  · split at h
    · omega
    · split at h
      · omega
      · simpa using ‹¬ vbad v = true›
theorem pspec_0 {v : S37} (h : pspec ⟨#[]⟩ [v] = 0) : pbad v = false := by
  unfold pspec at h
  split at h
  · omega
  · split at h
    · omega
    · split at h
      · omega
      · simpa using ‹¬ pbad v = true›
theorem fst2_0 {a b : Int} (h : fst2 a b = 0) : a = 0 ∧ b = 0 := by unfold fst2 at h; split at h <;> omega
theorem nums_ok {v : S34} {p : S37} {level : Int} (h : one v p = 0) (hl : outB level 0 v.f1 = false) : Nums v.f1 v.f4 (mn v.f3 p.f2) level := by
  obtain ⟨h1, h2⟩ := fst2_0 h
  have h3 := vspec_0 h1
  have h4 := pspec_0 h2
  simp only [vbad, pbad, outB, Bool.not_eq_false', Bool.and_eq_true, decide_eq_true_eq] at h3 h4 hl
  have h5 : 1 ≤ mn v.f3 p.f2 ∧ mn v.f3 p.f2 ≤ 1000000 := by unfold mn; split <;> omega
  exact ⟨by omega, by omega, by omega, by omega, h5.1, h5.2, by omega, by omega⟩
/-- What is needed and what is gained: as specified. -/
theorem gain_law (v : S34) (p : S37) (hv : v.f0.size ≤ 40) (hp : p.f0.size ≤ 40) (level long : Int) :
    ∃ n e, fleet_Gain.f 500 v.f0 v.f1 v.f2 v.f3 v.f4 p.f0 p.f1 p.f2 level long = some (n, e) ∧ e = fst2 (gfault v p level) (if outB long 0 2592000000 = true then 1 else 0) ∧
      (e = 0 → jitref2_GainOf.f v.f0 v.f1 v.f2 v.f3 v.f4 p.f0 p.f1 p.f2 level long = some n) ∧ (e ≠ 0 → n = 0) := by
  unfold fleet_Gain.f
  rw [oneFault_ok v p hv hp]
  simp only [Option.bind_some]
  have hgf : gfault v p level = fst2 (one v p) (if outB level 0 v.f1 = true then 1 else 0) := by
    unfold gfault one fst2
    split <;> simp [*]
  by_cases h0 : one v p = 0
  · rw [if_pos h0, hgf, h0, out_b]
    simp only [Option.bind_some]
    cases hl : outB level 0 v.f1
    · rw [if_neg (by decide), out_b]
      simp only [Option.bind_some]
      rw [fleet_Gain.j0]
      cases hg : outB long 0 2592000000
      · have H := nums_ok h0 hl
        rw [if_neg (by decide)]
        unfold fleet_newBattery.f
        obtain ⟨s1, s2, s3⟩ := slow_ok H
        have h1 := H.F1; have h2 := H.F2; have h5 := H.l1; have h6 := H.l2; have h7 := H.p1; have h8 := H.p2
        rw [s1, w_in (level * 3600000000) (by omega), w_in (v.f1 * v.f4 / 1000 * 3600000000) (by omega), w_in (v.f1 * 3600000000) (by omega), w_in (1000 * mn v.f3 p.f2) (by omega)]
        simp only [Option.bind_some]
        obtain ⟨u0, a1, a2, a3, a4, a5⟩ := refGain_ok H v.f0 p.f0 v.f2 v.f3 p.f2 p.f1 rfl
        simp only [outB, Bool.not_eq_false', decide_eq_true_eq] at hg
        rw [after_ok _ _ _ _ u0 long (by omega) (by omega) (by omega) (by omega) (by omega) a1 a4 (by omega) (by omega)]
        simp only [Option.bind_some]
        have hc := chg_ge (level * 3600000000) (v.f1 * v.f4 / 1000 * 3600000000) (1000 * mn v.f3 p.f2) (500 * mn v.f3 p.f2) u0 long (by omega) (by omega) (by omega) a1
        have hc0 : 0 ≤ long * (500 * mn v.f3 p.f2) := Int.mul_nonneg (by omega) (by omega)
        have hm0 : ∀ c, 0 ≤ c → 0 ≤ mn (v.f1 * 3600000000) c ∧ mn (v.f1 * 3600000000) c ≤ v.f1 * 3600000000 := fun c hc => by unfold mn; split <;> omega
        have hm1 := hm0 _ (show 0 ≤ chg (level * 3600000000) (v.f1 * v.f4 / 1000 * 3600000000) (1000 * mn v.f3 p.f2) (500 * mn v.f3 p.f2) u0 long by omega)
        rw [Int.tdiv_eq_ediv_of_nonneg hm1.1, w_in _ (by omega)]
        refine ⟨_, _, rfl, by simp [fst2], fun _ => ?_, fun h => absurd rfl h⟩
        rw [a5 long (by omega) (by omega), min_div _ _ (by omega)]
      · rw [if_pos rfl]
        exact ⟨_, _, rfl, by simp [fst2], fun h => by omega, fun _ => rfl⟩
    · rw [if_pos rfl]
      rw [fleet_Gain.j0]
      rw [if_pos rfl]
      exact ⟨_, _, rfl, by simp [fst2], fun h => by omega, fun _ => rfl⟩
  · rw [if_neg h0, hgf]
    exact ⟨_, _, rfl, by simp [fst2, h0], fun h => absurd h h0, fun _ => rfl⟩
theorem needs_law (v : S34) (p : S37) (hv : v.f0.size ≤ 40) (hp : p.f0.size ≤ 40) (level want : Int) :
    ∃ n e, fleet_Needs.f 500 v.f0 v.f1 v.f2 v.f3 v.f4 p.f0 p.f1 p.f2 level want = some (n, e) ∧ e = fst2 (gfault v p level) (if outB want 0 v.f1 = true then 1 else 0) ∧
      (e = 0 → ∃ k, jitref2_NeedsOf.f k v.f0 v.f1 v.f2 v.f3 v.f4 p.f0 p.f1 p.f2 level want = some n) ∧ (e ≠ 0 → n = 0) := by
  unfold fleet_Needs.f
  rw [oneFault_ok v p hv hp]
  simp only [Option.bind_some]
  have hgf : gfault v p level = fst2 (one v p) (if outB level 0 v.f1 = true then 1 else 0) := by
    unfold gfault one fst2
    split <;> simp [*]
  by_cases h0 : one v p = 0
  · rw [if_pos h0, hgf, h0, out_b]
    simp only [Option.bind_some]
    cases hl : outB level 0 v.f1
    · rw [if_neg (by decide), out_b]
      simp only [Option.bind_some]
      rw [fleet_Needs.j0]
      cases hg : outB want 0 v.f1
      · have H := nums_ok h0 hl
        rw [if_neg (by decide)]
        unfold fleet_newBattery.f
        obtain ⟨s1, s2, s3⟩ := slow_ok H
        have h1 := H.F1; have h2 := H.F2; have h5 := H.l1; have h6 := H.l2; have h7 := H.p1; have h8 := H.p2
        rw [s1, w_in (level * 3600000000) (by omega), w_in (v.f1 * v.f4 / 1000 * 3600000000) (by omega), w_in (v.f1 * 3600000000) (by omega), w_in (1000 * mn v.f3 p.f2) (by omega)]
        simp only [Option.bind_some]
        obtain ⟨u0, a1, a2, a3, a4, a5⟩ := refGain_ok H v.f0 p.f0 v.f2 v.f3 p.f2 p.f1 rfl
        simp only [outB, Bool.not_eq_false', decide_eq_true_eq] at hg
        rw [w_in (want * 3600000000) (by omega)]
        obtain ⟨N, e1, e2, e3, e4⟩ := bneeds_ok (level * 3600000000) (v.f1 * v.f4 / 1000 * 3600000000) (mn v.f3 p.f2) (v.f1 * 3600000000) u0 (want * 3600000000) (by omega) (by omega) (by omega) (by omega) (by omega) (by omega) (by omega) a1 a4 a3 498
        rw [e1]
        simp only [Option.bind_some]
        refine ⟨_, _, rfl, by simp [fst2], fun _ => ?_, fun h => absurd rfl h⟩
        refine needsOf_ok v.f0 p.f0 v.f1 v.f2 v.f3 v.f4 p.f1 p.f2 level want N e2 e3 fun n hn hn2 => ⟨_, a5 n hn hn2, ?_⟩
        rw [lt_gain _ _ _ (by omega), e4 n hn]
      · rw [if_pos rfl]
        exact ⟨_, _, rfl, by simp [fst2], fun h => by omega, fun _ => rfl⟩
    · rw [if_pos rfl]
      rw [fleet_Needs.j0]
      rw [if_pos rfl]
      exact ⟨_, _, rfl, by simp [fst2], fun h => by omega, fun _ => rfl⟩
  · rw [if_neg h0, hgf]
    exact ⟨_, _, rfl, by simp [fst2, h0], fun h => absurd h h0, fun _ => rfl⟩
end Go.Proofs.Ytfphebbfgphldaa.PBatteriesGain

