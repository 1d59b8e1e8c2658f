import Derived.Test.YtfphebbfgphldaaB1PBatteriesGainx8
namespace Go.Proofs.Ytfphebbfgphldaa.PBatteriesGain
open Go.RowKit Go.Proofs.YtfphebbfgphldaaW.PrintWords Go.Proofs.YtfphebbfgphldaaW.PrintLast Go.Proofs.YtfphebbfgphldaaW.PrintMore Go.Proofs.Ytfphebbfgphldaa.MLib
set_option linter.unusedVariables false
set_option linter.unusedSimpArgs false
/-- The numbers of a list are Go's ints. -/
def Ints (l : List Int) : Prop := (∀ i, -9223372036854775808 ≤ rd l i ∧ rd l i ≤ 9223372036854775807) ∧ l.length ≤ 9223372036854775807
theorem w_rng (x : Int) : -9223372036854775808 ≤ wrap64 x ∧ wrap64 x ≤ 9223372036854775807 := by unfold wrap64; omega
theorem w_in (x : Int) (h : -9223372036854775808 ≤ x ∧ x ≤ 9223372036854775807) : wrap64 x = x := by unfold wrap64; omega
theorem below_ok (x n : Int) (hx : -9223372036854775808 ≤ x ∧ x ≤ 9223372036854775807) (hn : 1 ≤ n) (hn2 : n ≤ 4611686018427387904) : ∃ r, jitmake_Below.f x n = some r ∧ 0 ≤ r ∧ r < n := by
  unfold jitmake_Below.f
  rw [if_neg (by omega), if_neg (by omega)]
  have h1 := Int.tmod_lt_of_pos x (b := n) (by omega)
  have h2 := Int.lt_tmod_of_pos x (b := n) (by omega)
  split
  · refine ⟨_, rfl, ?_⟩
    rw [w_in _ (by omega)]
    omega
  · exact ⟨_, rfl, by omega, h1⟩
theorem next_ok {l : List Int} (hl : Ints l) (at_ n : Int) (h0 : 0 ≤ at_) (h1 : at_ ≤ 1000000) (hn : 1 ≤ n) (hn2 : n ≤ 4611686018427387904) : ∃ r, jitmake_Stream_Next.f l at_ n = some (r, at_ + 1) ∧ 0 ≤ r ∧ r < n := by
  unfold jitmake_Stream_Next.f
  simp only [show wrap64 (at_ + 1) = at_ + 1 from w_in _ (by omega), show wrap64 (at_ + 1 - 1) = at_ from w_in _ (by omega) |>.trans (by omega)]
  split
  · obtain ⟨r, h, hr⟩ := below_ok (wrap64 ((at_ + 1) * 7919)) n (w_rng _) hn hn2
    rw [h]
    exact ⟨r, rfl, hr⟩
  · rename_i hne
    have h2 : 0 ≤ Int.tmod at_ (l.length : Int) := Int.tmod_nonneg _ h0
    have h3 := Int.tmod_lt_of_pos at_ (b := (l.length : Int)) (by omega)
    rw [if_pos h2, if_pos h3]
    obtain ⟨r1, e1, hr1⟩ := below_ok (rd l (Int.tmod at_ (l.length : Int))) 1073741824 (hl.1 _) (by omega) (by omega)
    rw [e1]
    simp only [Option.bind_some]
    obtain ⟨r, h, hr⟩ := below_ok (wrap64 (r1 + wrap64 (wrap64 (Int.tdiv at_ (l.length : Int)) * wrap64 (7919 + Int.tmod at_ (l.length : Int))))) n (w_rng _) hn hn2
    rw [h]
    exact ⟨r, rfl, hr⟩
theorem flip_ok {l : List Int} (hl : Ints l) (at_ n : Int) (h0 : 0 ≤ at_) (h1 : at_ ≤ 1000000) (hn : 1 ≤ n) (hn2 : n ≤ 4611686018427387904) : ∃ b, jitmake_Stream_Flip.f l at_ n = some (b, at_ + 1) := by
  obtain ⟨r, h, _⟩ := next_ok hl at_ n h0 h1 hn hn2
  unfold jitmake_Stream_Flip.f
  rw [h]
  exact ⟨_, rfl⟩
theorem pick_ok {l : List Int} (hl : Ints l) (at_ : Int) (xs : List Int) (h0 : 0 ≤ at_) (h1 : at_ ≤ 1000000) (hx : 0 < xs.length) (hx2 : xs.length ≤ 1000) : ∃ r, jitmake_Stream_Pick.f l at_ xs = some (r, at_ + 1) ∧ r ∈ xs := by
  obtain ⟨r, h, hr⟩ := next_ok hl at_ (xs.length : Int) h0 h1 (by omega) (by omega)
  unfold jitmake_Stream_Pick.f
  rw [h]
  simp only [Option.bind_some]
  rw [if_pos hr.1, if_pos hr.2]
  refine ⟨_, rfl, ?_⟩
  have : r.toNat < xs.length := by omega
  simp [rd, List.getD_eq_getElem?_getD, this]
theorem some_ok {l : List Int} (hl : Ints l) (at_ : Int) (xs : List ByteArray) (h0 : 0 ≤ at_) (h1 : at_ ≤ 1000000) (hx : 0 < xs.length) (hx2 : xs.length ≤ 1000) : ∃ r, jitmake_Stream_Some.f l at_ xs = some (r, at_ + 1) ∧ r ∈ xs := by
  obtain ⟨r, h, hr⟩ := next_ok hl at_ (xs.length : Int) h0 h1 (by omega) (by omega)
  unfold jitmake_Stream_Some.f
  rw [h]
  simp only [Option.bind_some]
  rw [if_pos hr.1, if_pos hr.2]
  refine ⟨_, rfl, ?_⟩
  have : r.toNat < xs.length := by omega
  simp [rdOf, List.getD_eq_getElem?_getD, this]
theorem range_ok {l : List Int} (hl : Ints l) (at_ lo hi : Int) (h0 : 0 ≤ at_) (h1 : at_ ≤ 1000000) (hlo : -1000000000 ≤ lo) (hlh : lo ≤ hi) (hhi : hi ≤ 1000000000) : ∃ r, jitmake_Stream_Range.f l at_ lo hi = some (r, at_ + 1) ∧ lo ≤ r ∧ r ≤ hi := by
  unfold jitmake_Stream_Range.f
  rw [if_neg (by omega)]
  simp only [show wrap64 (hi - lo) = hi - lo from w_in _ (by omega), show wrap64 (hi - lo + 1) = hi - lo + 1 from w_in _ (by omega)]
  obtain ⟨r, h, hr⟩ := next_ok hl at_ (hi - lo + 1) h0 h1 (by omega) (by omega)
  rw [h]
  simp only [Option.bind_some]
  rw [w_in _ (by omega)]
  exact ⟨_, rfl, by omega, by omega⟩
theorem odd_ok {l : List Int} (hl : Ints l) (at_ lo hi : Int) (h0 : 0 ≤ at_) (h1 : at_ ≤ 999999) (hlo : -1000000000 ≤ lo) (hlh : lo ≤ hi) (hhi : hi ≤ 1000000000) : ∃ r, jitmake_Stream_Odd.f l at_ lo hi = some (r, at_ + 2) ∧ -1099511627776 ≤ r ∧ r ≤ 1099511627776 := by
  unfold jitmake_Stream_Odd.f
  obtain ⟨b, h⟩ := flip_ok hl at_ 12 h0 (by omega) (by omega) (by omega)
  rw [h]
  simp only [Option.bind_some]
  rw [show at_ + 2 = at_ + 1 + 1 from by omega]
  cases b with
  | true =>
    rw [if_pos rfl]
    obtain ⟨r, h2, hr⟩ := pick_ok hl (at_ + 1) [wrap64 (lo - 1), wrap64 (hi + 1), lo, hi, (-1099511627776), 1099511627776] (by omega) (by omega) (by simp) (by simp)
    rw [h2]
    refine ⟨r, rfl, ?_⟩
    rw [w_in _ (by omega), w_in _ (by omega)] at hr
    simp only [List.mem_cons, List.not_mem_nil, or_false] at hr
    omega
  | false =>
    rw [if_neg (by simp)]
    obtain ⟨r, h2, hr⟩ := range_ok hl (at_ + 1) lo hi (by omega) (by omega) hlo hlh hhi
    rw [h2]
    exact ⟨r, rfl, by omega, by omega⟩
def Mid (x : Int) : Prop := -1099511627776 ≤ x ∧ x ≤ 1099511627776
/-- A vehicle whose numbers are not too great, and whose key is not too long. -/
def VOk (v : S34) : Prop := v.f0.size ≤ 40 ∧ Mid v.f1 ∧ Mid v.f2 ∧ Mid v.f3 ∧ Mid v.f4
theorem rightVehicle_ok {l : List Int} (hl : Ints l) (at_ : Int) (key : ByteArray) (h0 : 0 ≤ at_) (h1 : at_ ≤ 999990) : ∃ a b c d, jitmake_Stream_RightVehicle.f l at_ key = some (key, a, b, c, d, at_ + 4) ∧ (1 ≤ a ∧ a ≤ 100) ∧ (0 ≤ b ∧ b ≤ 100) ∧ (1 ≤ c ∧ c ≤ 1000000) ∧ (0 ≤ d ∧ d ≤ 1000) := by
  unfold jitmake_Stream_RightVehicle.f
  obtain ⟨a, e1, ha⟩ := pick_ok hl at_ [1, 10, 50, 100] h0 (by omega) (by simp) (by simp)
  rw [e1]; simp only [Option.bind_some]
  obtain ⟨c, e2, hc⟩ := pick_ok hl (at_ + 1) [1000, 36000, 720000, 999983] (by omega) (by omega) (by simp) (by simp)
  rw [e2]; simp only [Option.bind_some]
  obtain ⟨d, e3, hd⟩ := pick_ok hl (at_ + 1 + 1) [0, 500, 800, 1000] (by omega) (by omega) (by simp) (by simp)
  rw [e3]; simp only [Option.bind_some]
  obtain ⟨b, e4, hb⟩ := pick_ok hl (at_ + 1 + 1 + 1) [0, 1, 5] (by omega) (by omega) (by simp) (by simp)
  rw [e4]; simp only [Option.bind_some]
  simp only [List.mem_cons, List.not_mem_nil, or_false] at ha hb hc hd
  refine ⟨a, mn a b, c, d, ?_, by omega, ?_, by omega, by omega⟩
  · rw [show at_ + 4 = at_ + 1 + 1 + 1 + 1 from by omega]
  · unfold mn; split <;> omega
theorem rvs_loop {l : List Int} (hl : Ints l) (ys : List ByteArray) (hy : ys.length = 3) (hys : ∀ i, (rdOf ByteArray.empty ys i).size ≤ 40) : ∀ (n : Nat) (acc : List S34) (i at_ : Int), i = 3 - (n : Int) → n ≤ 3 → acc.length + n ≤ 3 → (∀ v ∈ acc, VOk v) → 0 ≤ at_ → at_ + 5 * n ≤ 999900 →
    ∃ vs a', jitmake_Stream_RightVehicles.l0 (n + 1) acc ys 3 i l at_ = some (vs, a') ∧ vs.length ≤ 3 ∧ (∀ v ∈ vs, VOk v) ∧ at_ ≤ a' ∧ a' ≤ at_ + 5 * n
  | 0, acc, i, at_, hi, hn, hal, ha, h0, h1 => by
    simp only [jitmake_Stream_RightVehicles.l0]
    rw [if_neg (by omega)]
    exact ⟨acc, at_, rfl, by omega, ha, by omega, by omega⟩
  | n + 1, acc, i, at_, hi, hn, hal, ha, h0, h1 => by
    simp only [jitmake_Stream_RightVehicles.l0]
    rw [if_pos (by omega), if_pos (by omega), if_pos (by omega)]
    obtain ⟨b, e1⟩ := flip_ok hl at_ 5 h0 (by omega) (by omega) (by omega)
    rw [e1]; simp only [Option.bind_some]
    rw [w_in (i + 1) (by omega)]
    cases b with
    | true =>
      rw [if_pos rfl]
      obtain ⟨vs, a', e, hv1, hv2, h3, h4⟩ := rvs_loop hl ys hy hys n acc (i + 1) (at_ + 1) (by omega) (by omega) (by omega) ha (by omega) (by omega)
      exact ⟨vs, a', e, hv1, hv2, by omega, by omega⟩
    | false =>
      rw [if_neg (by simp)]
      obtain ⟨a, b, c, d, e2, h5, h6, h7, h8⟩ := rightVehicle_ok hl (at_ + 1) (rdOf ByteArray.empty ys i) (by omega) (by omega)
      rw [e2]; simp only [Option.bind_some]
      rw [if_pos (by omega)]
      obtain ⟨vs, a', e, hv1, hv2, h3, h4⟩ := rvs_loop hl ys hy hys n (acc ++ [⟨rdOf ByteArray.empty ys i, a, b, c, d⟩]) (i + 1) (at_ + 1 + 4) (by omega) (by omega) (by simp; omega) (by
        intro v hv
        rcases List.mem_append.1 hv with hv | hv
        · exact ha v hv
        · rw [List.mem_singleton.1 hv]
          exact ⟨hys i, ⟨by simp only; omega, by simp only; omega⟩, ⟨by simp only; omega, by simp only; omega⟩, ⟨by simp only; omega, by simp only; omega⟩, ⟨by simp only; omega, by simp only; omega⟩⟩) (by omega) (by omega)
      exact ⟨vs, a', e, hv1, hv2, by omega, by omega⟩
theorem rightVehicles_ok {l : List Int} (hl : Ints l) (at_ : Int) (h0 : 0 ≤ at_) (h1 : at_ ≤ 999800) : ∃ vs a', jitmake_Stream_RightVehicles.f 4 l at_ = some (vs, a') ∧ vs.length ≤ 3 ∧ (∀ v ∈ vs, VOk v) ∧ at_ ≤ a' ∧ a' ≤ at_ + 15 := by
  unfold jitmake_Stream_RightVehicles.f
  simp only [Option.bind_some]
  exact rvs_loop hl _ rfl (by
    intro i
    unfold rdOf
    rcases i.toNat with _ | _ | _ | n <;> simp [ByteArray.size]) 3 [] 0 at_ (by omega) (by omega) (by simp) (by simp) h0 (by omega)
theorem rd_mem34 {vs : List S34} {i : Int} (h0 : 0 ≤ i) (h1 : i < (vs.length : Int)) : rd_T34 vs i ∈ vs := by
  unfold rd_T34
  have h : i.toNat < vs.length := by omega
  simp [List.getD_eq_getElem?_getD, h]
theorem vehicles_ok {l : List Int} (hl : Ints l) (at_ : Int) (h0 : 0 ≤ at_) (h1 : at_ ≤ 999800) : ∃ vs a', jitmake_Stream_Vehicles.f 4 l at_ = some (vs, a') ∧ vs.length ≤ 3 ∧ (∀ v ∈ vs, VOk v) ∧ at_ ≤ a' ∧ a' ≤ at_ + 30 := by
  unfold jitmake_Stream_Vehicles.f
  obtain ⟨vs, a1, e1, hv1, hv2, h3, h4⟩ := rightVehicles_ok hl at_ h0 h1
  rw [e1]; simp only [Option.bind_some]
  by_cases hp : 0 < vs.length
  · rw [if_pos hp]
    obtain ⟨b, e2⟩ := flip_ok hl a1 15 (by omega) (by omega) (by omega) (by omega)
    rw [e2]; simp only [Option.bind_some]
    cases b with
    | false =>
      rw [if_neg (by simp)]
      exact ⟨vs, _, rfl, hv1, hv2, by omega, by omega⟩
    | true =>
      rw [if_pos rfl]
      obtain ⟨i, e3, hi0, hi1⟩ := next_ok hl (a1 + 1) (vs.length : Int) (by omega) (by omega) (by omega) (by omega)
      rw [e3]; simp only [Option.bind_some]
      rw [if_pos ⟨hi0, hi1⟩]
      have hm := hv2 _ (rd_mem34 hi0 hi1)
      obtain ⟨s, e4, hs⟩ := some_ok hl (a1 + 1 + 1) [(rd_T34 vs i).f0, (⟨#[]⟩ : ByteArray), (⟨#[118, 97]⟩ : ByteArray)] (by omega) (by omega) (by simp) (by simp)
      rw [e4]; simp only [Option.bind_some]
      obtain ⟨x5, e5, h5⟩ := odd_ok hl (a1 + 1 + 1 + 1) 1 100 (by omega) (by omega) (by omega) (by omega) (by omega)
      rw [e5]; simp only [Option.bind_some]
      obtain ⟨x6, e6, h6⟩ := odd_ok hl (a1 + 1 + 1 + 1 + 2) 1 1000 (by omega) (by omega) (by omega) (by omega) (by omega)
      rw [e6]; simp only [Option.bind_some]
      obtain ⟨x7, e7, h7⟩ := odd_ok hl (a1 + 1 + 1 + 1 + 2 + 2) 0 1000 (by omega) (by omega) (by omega) (by omega) (by omega)
      rw [e7]; simp only [Option.bind_some]
      refine ⟨_, _, rfl, by simpa using hv1, ?_, by omega, by omega⟩
      intro v hv
      rcases List.mem_or_eq_of_mem_set hv with hv | rfl
      · exact hv2 v hv
      · refine ⟨?_, h5, hm.2.2.1, h6, h7⟩
        simp only [List.mem_cons, List.not_mem_nil, or_false] at hs
        rcases hs with rfl | rfl | rfl
        · exact hm.1
        · dsimp only; decide
        · dsimp only; decide
  · rw [if_neg hp]
    exact ⟨vs, a1, rfl, hv1, hv2, by omega, by omega⟩
/-- A place whose numbers are not too great, and whose key is not too long. -/
def POk (v : S37) : Prop := v.f0.size ≤ 40 ∧ Mid v.f1 ∧ Mid v.f2
theorem places_ok {l : List Int} (hl : Ints l) (at_ : Int) (h0 : 0 ≤ at_) (h1 : at_ ≤ 999800) : ∃ ps a', jitmake_Stream_Places.f l at_ = some (ps, a') ∧ 0 < ps.length ∧ ps.length ≤ 3 ∧ (∀ v ∈ ps, POk v) ∧ at_ ≤ a' ∧ a' ≤ at_ + 30 := by
  unfold jitmake_Stream_Places.f jitmake_Stream_RightPlaces.f
  obtain ⟨a, e1, ha⟩ := pick_ok hl at_ [1, 1, 2] h0 (by omega) (by simp) (by simp)
  rw [e1]; simp only [Option.bind_some]
  obtain ⟨c, e2, hc⟩ := pick_ok hl (at_ + 1) [36000, 72000, 999983] (by omega) (by omega) (by simp) (by simp)
  rw [e2]; simp only [Option.bind_some]
  obtain ⟨d, e3, hd⟩ := pick_ok hl (at_ + 1 + 1) [1, 2, 2] (by omega) (by omega) (by simp) (by simp)
  rw [e3]; simp only [Option.bind_some]
  simp only [List.mem_cons, List.not_mem_nil, or_false] at ha hc hd
  have hlen : ∀ x y : S37, ([x, y] : List S37).length = 2 := fun _ _ => rfl
  rw [if_pos (by omega), if_pos (by rw [hlen]; omega)]
  simp only [Option.bind_some]
  have hP : ∀ v ∈ ([(⟨(⟨#[112, 97]⟩ : ByteArray), a, c⟩ : S37), (⟨(⟨#[112, 98]⟩ : ByteArray), 1, 7000⟩ : S37)].take d.toNat), POk v := by
    intro v hv
    have hv := List.mem_of_mem_take hv
    simp only [List.mem_cons, List.not_mem_nil, or_false] at hv
    rcases hv with rfl | rfl
    · exact ⟨by dsimp only; decide, ⟨by simp only; omega, by simp only; omega⟩, ⟨by simp only; omega, by simp only; omega⟩⟩
    · exact ⟨by decide, ⟨by decide, by decide⟩, ⟨by decide, by decide⟩⟩
  have hL : ([(⟨(⟨#[112, 97]⟩ : ByteArray), a, c⟩ : S37), (⟨(⟨#[112, 98]⟩ : ByteArray), 1, 7000⟩ : S37)].take d.toNat).length = d.toNat := by simp; omega
  generalize [(⟨(⟨#[112, 97]⟩ : ByteArray), a, c⟩ : S37), (⟨(⟨#[112, 98]⟩ : ByteArray), 1, 7000⟩ : S37)].take d.toNat = ps at *
  obtain ⟨b, e4⟩ := flip_ok hl (at_ + 1 + 1 + 1) 15 (by omega) (by omega) (by omega) (by omega)
  rw [e4]; simp only [Option.bind_some]
  cases b with
  | false =>
    rw [if_neg (by simp)]
    exact ⟨ps, _, rfl, by omega, by omega, hP, by omega, by omega⟩
  | true =>
    rw [if_pos rfl]
    obtain ⟨s, e5, hs⟩ := some_ok hl (at_ + 1 + 1 + 1 + 1) [(⟨#[]⟩ : ByteArray), (⟨#[112, 97]⟩ : ByteArray), (⟨#[112, 122]⟩ : ByteArray)] (by omega) (by omega) (by simp) (by simp)
    rw [e5]; simp only [Option.bind_some]
    obtain ⟨x5, e6, h5⟩ := odd_ok hl (at_ + 1 + 1 + 1 + 1 + 1) 1 50 (by omega) (by omega) (by omega) (by omega) (by omega)
    rw [e6]; simp only [Option.bind_some]
    obtain ⟨x6, e7, h6⟩ := odd_ok hl (at_ + 1 + 1 + 1 + 1 + 1 + 2) 1 1000 (by omega) (by omega) (by omega) (by omega) (by omega)
    rw [e7]; simp only [Option.bind_some]
    rw [if_pos (by omega)]
    refine ⟨_, _, rfl, by simp, by simp; omega, ?_, by omega, by omega⟩
    intro v hv
    rcases List.mem_append.1 hv with hv | hv
    · exact hP v hv
    · rw [List.mem_singleton.1 hv]
      simp only [List.mem_cons, List.not_mem_nil, or_false] at hs
      refine ⟨?_, h5, h6⟩
      rcases hs with rfl | rfl | rfl <;> (dsimp only; decide)
/-- Is it a byte of a key? -/
def keyByte (c : Int) : Bool := decide (97 ≤ c ∧ c ≤ 122) || decide (48 ≤ c ∧ c ≤ 57) || decide (c = 45) || decide (c = 95)
def keyFrom (s : ByteArray) : Nat → Nat → Bool
  | 0, _ => true
  | n + 1, j => keyByte (bt s (j : Int)) && keyFrom s n (j + 1)
/-- Is it a key? -/
def isKey (s : ByteArray) : Bool := decide (1 ≤ s.size ∧ s.size ≤ 40) && (decide (97 ≤ bt s 0 ∧ bt s 0 ≤ 122) && keyFrom s s.size 0)
theorem baseKey_l0 (s : ByteArray) (hs : s.size ≤ 1000000) : ∀ (n j : Nat) (k : Nat), j + n = s.size → n < k → base_Key.l0 k s (s.size : Int) (j : Int) = some (keyFrom s n j)
  | 0, j, k + 1, hj, hk => by
    simp only [base_Key.l0, keyFrom]
    rw [if_neg (by omega)]
  | n + 1, j, k + 1, hj, hk => by
    have ih := baseKey_l0 s hs n (j + 1) k (by omega) (by omega)
    rw [show ((j + 1 : Nat) : Int) = (j : Int) + 1 from by omega] at ih
    simp only [base_Key.l0, keyFrom]
    rw [if_pos (by omega), if_pos (by omega), if_pos (by omega), w_in _ (by omega), ih]
    generalize bt s (j : Int) = c
    by_cases h1 : c ≥ 97 <;> by_cases h2 : c ≤ 122 <;> by_cases h3 : c ≥ 48 <;> by_cases h4 : c ≤ 57 <;> by_cases h5 : c = 45 <;> by_cases h6 : c = 95 <;> simp [h1, h2, h3, h4, h5, h6, keyByte] <;> omega
theorem baseKey_ok (s : ByteArray) (hs : s.size ≤ 1000000) : ∀ k, s.size + 2 < k → base_Key.f k s = some (isKey s) := by
  intro k hk
  obtain ⟨k, rfl⟩ : ∃ m, k = m + 1 := ⟨k - 1, by omega⟩
  have hl := baseKey_l0 s hs s.size 0 k (by omega) (by omega)
  unfold base_Key.f isKey
  by_cases h0 : s.size = 0
  · have e : s.toList = [] := by
      have h2 : s.data.toList.length = 0 := by rw [Array.length_toList]; exact h0
      rw [ByteArray.toList_eq]
      exact List.eq_nil_of_length_eq_zero h2
    rw [if_pos e]
    simp [base_Key.j0, h0]
  · have e : ¬ s.toList = [] := by
      intro h
      apply h0
      have := congrArg List.length h
      simpa [ByteArray.toList_eq] using this
    rw [if_neg e]
    by_cases h1 : (s.size : Int) > 40
    · rw [if_pos h1]
      have h2 : ¬ (1 ≤ s.size ∧ s.size ≤ 40) := by omega
      simp [base_Key.j0, h2]
    · rw [if_neg h1, if_pos (by omega)]
      have h2 : (1 ≤ s.size ∧ s.size ≤ 40) := by omega
      rw [decide_eq_true h2]
      by_cases h3 : bt s 0 < 97
      · rw [if_pos h3]
        have h4 : ¬ (97 ≤ bt s 0 ∧ bt s 0 ≤ 122) := by omega
        simp [base_Key.j0, h4]
      · rw [if_neg h3]
        by_cases h5 : bt s 0 > 122
        · have h4 : ¬ (97 ≤ bt s 0 ∧ bt s 0 ≤ 122) := by omega
          simp [base_Key.j0, h4, h5]
        · have h4 : (97 ≤ bt s 0 ∧ bt s 0 ≤ 122) := by omega
          simp only [base_Key.j0]
          rw [if_neg (by simpa using h5), decide_eq_true h4]
          simpa using hl
def smalls : List UInt8 := [97, 98, 99, 100, 101, 102, 103, 104, 105, 106, 107, 108, 109, 110, 111, 112, 113, 114, 115, 116, 117, 118, 119, 120, 121, 122]
def keyBytes : List UInt8 := [97, 98, 99, 100, 101, 102, 103, 104, 105, 106, 107, 108, 109, 110, 111, 112, 113, 114, 115, 116, 117, 118, 119, 120, 121, 122, 48, 49, 50, 51, 52, 53, 54, 55, 56, 57, 45, 95]
def smallByte (c : Int) : Bool := decide (97 ≤ c ∧ c ≤ 122)
theorem smallAt : ∀ n : Nat, n < 256 → decide (Lib.indexByte smalls n.toUInt8 < 0) = !(smallByte (n : Int)) := by decide +kernel
theorem keyAt : ∀ n : Nat, n < 256 → decide (Lib.indexByte keyBytes n.toUInt8 < 0) = !(keyByte (n : Int)) := by decide +kernel
def allFrom (p : Int → Bool) (s : ByteArray) : Nat → Nat → Bool
  | 0, _ => true
  | n + 1, j => p (bt s (j : Int)) && allFrom p s n (j + 1)
theorem keyFrom_eq (s : ByteArray) : ∀ n j, allFrom keyByte s n j = keyFrom s n j
  | 0, _ => rfl
  | n + 1, j => by simp only [allFrom, keyFrom]; rw [keyFrom_eq s n (j + 1)]
theorem only_l0 (p : Int → Bool) (x : ByteArray) (hp : ∀ n : Nat, n < 256 → decide (Lib.indexByte x.data.toList n.toUInt8 < 0) = !(p (n : Int))) (s : ByteArray) (hs : s.size ≤ 1000000) : ∀ (n j : Nat) (k : Nat), j + n = s.size → n < k → jitref2_only.l0 k s x (s.size : Int) (j : Int) = some (allFrom p s n j)
  | 0, j, k + 1, hj, hk => by
    simp only [jitref2_only.l0, allFrom]
    rw [if_neg (by omega)]
  | n + 1, j, k + 1, hj, hk => by
    have ih := only_l0 p x hp s hs n (j + 1) k (by omega) (by omega)
    rw [show ((j + 1 : Nat) : Int) = (j : Int) + 1 from by omega] at ih
    simp only [jitref2_only.l0, allFrom]
    rw [if_pos (by omega), if_pos (by omega), if_pos (by omega), w_in _ (by omega), ih]
    simp only [strings_IndexByte.f, Option.bind_some]
    have hr := bt_range s (j : Int)
    have h := hp (bt s (j : Int)).toNat (by omega)
    rw [show ((bt s (j : Int)).toNat : Int) = bt s (j : Int) from by omega] at h
    cases hb : p (bt s (j : Int)) with
    | true =>
      rw [hb] at h
      rw [if_neg (by simpa using h)]
      simp
    | false =>
      rw [hb] at h
      rw [if_pos (by simpa using h)]
      simp
theorem refKey_ok (s : ByteArray) (hs : s.size ≤ 1000000) : ∀ k, s.size + 2 < k → jitref2_Key.f k s = some (isKey s) := by
  intro k hk
  unfold jitref2_Key.f isKey jitref2_in.f
  by_cases h1 : 1 ≤ s.size
  · rw [if_pos (by omega)]
    simp only [Option.bind_some]
    by_cases h2 : s.size ≤ 40
    · rw [if_pos (by simp; omega), if_pos (by omega), if_pos (by omega)]
      have h3 : (s.extract 0 1).size = 1 := by simp [ByteArray.size_extract]; omega
      have e1 := only_l0 smallByte ⟨smalls.toArray⟩ smallAt (s.extract 0 1) (by omega) 1 0 k (by omega) (by omega)
      have e2 := only_l0 keyByte ⟨keyBytes.toArray⟩ keyAt s hs s.size 0 k (by omega) (by omega)
      rw [h3] at e1
      have e3 : bt (s.extract 0 1) ((0 : Nat) : Int) = bt s 0 := by
        unfold bt
        rw [dif_pos (by simp [h3]), dif_pos (by simp; omega)]
        simp [ByteArray.getElem_extract]
      unfold jitref2_only.f
      rw [h3]
      have e1' : jitref2_only.l0 k (s.extract 0 1) (⟨#[97, 98, 99, 100, 101, 102, 103, 104, 105, 106, 107, 108, 109, 110, 111, 112, 113, 114, 115, 116, 117, 118, 119, 120, 121, 122]⟩ : ByteArray) ((1 : Nat) : Int) 0 = some (allFrom smallByte (s.extract 0 1) 1 0) := e1
      have e2' : jitref2_only.l0 k s (⟨#[97, 98, 99, 100, 101, 102, 103, 104, 105, 106, 107, 108, 109, 110, 111, 112, 113, 114, 115, 116, 117, 118, 119, 120, 121, 122, 48, 49, 50, 51, 52, 53, 54, 55, 56, 57, 45, 95]⟩ : ByteArray) (s.size : Int) 0 = some (allFrom keyByte s s.size 0) := e2
      rw [e1', e2']
      simp only [Option.bind_some, allFrom, e3, Bool.and_true, keyFrom_eq]
      have h4 : (1 ≤ s.size ∧ s.size ≤ 40) := by omega
      rw [decide_eq_true h4]
      cases hb : smallByte (bt s 0) with
      | true =>
        have h5 : (97 ≤ bt s 0 ∧ bt s 0 ≤ 122) := of_decide_eq_true hb
        simp [h5]
      | false =>
        have h5 : ¬ (97 ≤ bt s 0 ∧ bt s 0 ≤ 122) := of_decide_eq_false hb
        simp [h5]
    · rw [if_neg (by simp; omega)]
      have h4 : ¬ (1 ≤ s.size ∧ s.size ≤ 40) := by omega
      simp [h4]
  · rw [if_neg (by omega)]
    have h4 : ¬ (1 ≤ s.size ∧ s.size ≤ 40) := by omega
    simp [h4]
def vbad (v : S34) : Bool := !(decide (1 ≤ v.f1 ∧ v.f1 ≤ 1000000) && decide (0 ≤ v.f2 ∧ v.f2 ≤ v.f1) && decide (1 ≤ v.f3 ∧ v.f3 ≤ 1000000) && decide (0 ≤ v.f4 ∧ v.f4 ≤ 1000))
/-- What is wrong with vehicles, behind one whose key is 'last'. -/
def vspec (last : ByteArray) : List S34 → Int
  | [] => 0
  | v :: r => if isKey v.f0 = false then 5 else if Op.bytesLess last.toList v.f0.toList = false then 7 else if vbad v = true then 1 else vspec v.f0 r
def keyAtN (vs : List S34) (j : Nat) : ByteArray := if j = 0 then ⟨#[]⟩ else (rd_T34 vs ((j : Int) - 1)).f0
theorem out_f (n a b : Int) : base_Out.f n a b = some (!(decide (a ≤ n ∧ n ≤ b))) := by
  unfold base_Out.f
  by_cases h1 : n < a
  · rw [if_pos h1, decide_eq_false (by omega)]; rfl
  · rw [if_neg h1]
    by_cases h2 : n ≤ b
    · rw [decide_eq_true (show a ≤ n ∧ n ≤ b by omega), decide_eq_false (by omega)]; rfl
    · rw [decide_eq_false (show ¬ (a ≤ n ∧ n ≤ b) by omega), decide_eq_true (by omega)]; rfl
theorem in_f (n a b : Int) : jitref2_in.f n a b = some (decide (a ≤ n ∧ n ≤ b)) := by
  unfold jitref2_in.f
  by_cases h1 : a ≤ n
  · rw [if_pos h1]
    simp [h1]
  · rw [if_neg h1, decide_eq_false (by omega)]
theorem key_ne {s : ByteArray} (h : isKey s = true) : Op.bytesLess (⟨#[]⟩ : ByteArray).toList s.toList = true := by
  have h1 : 1 ≤ s.size := by
    unfold isKey at h
    simp only [Bool.and_eq_true, decide_eq_true_eq] at h
    omega
  have e : (⟨#[]⟩ : ByteArray).toList = [] := by rw [ByteArray.toList_eq]
  have e2 : s.toList.length = s.size := by rw [ByteArray.toList_eq, Array.length_toList]; rfl
  rw [e]
  cases hs : s.toList with
  | nil => rw [hs] at e2; simp at e2; omega
  | cons a r => rfl
theorem drop_rd34 (vs : List S34) (j : Nat) (h : j < vs.length) : vs.drop j = rd_T34 vs (j : Int) :: vs.drop (j + 1) := by
  rw [List.drop_eq_getElem_cons h]
  simp [rd_T34, List.getD_eq_getElem?_getD, h]
theorem cv_l0 (vs : List S34) (hs : ∀ v ∈ vs, v.f0.size ≤ 40) (hl : vs.length ≤ 1000) : ∀ (n j k : Nat), j + n = vs.length → 2 * n + 50 ≤ k → fleet_CheckVehicles.l0 k vs vs (vs.length : Int) (j : Int) = some (vspec (keyAtN vs j) (vs.drop j))
  | 0, j, k + 1, hj, hk => by
    simp only [fleet_CheckVehicles.l0]
    rw [if_neg (by omega), List.drop_eq_nil_of_le (by omega)]
    rfl
  | n + 1, j, k + 2, hj, hk => by
    have ih := cv_l0 vs hs hl n (j + 1) k (by omega) (by omega)
    rw [show ((j + 1 : Nat) : Int) = (j : Int) + 1 from by omega] at ih
    rw [drop_rd34 vs j (by omega)]
    simp only [fleet_CheckVehicles.l0, vspec]
    rw [if_pos (by omega), if_pos (by omega), if_pos (by omega)]
    have hm := hs _ (rd_mem34 (vs := vs) (i := (j : Int)) (by omega) (by omega))
    rw [baseKey_ok _ (by omega) (k + 1) (by omega)]
    simp only [Option.bind_some]
    cases hkey : isKey (rd_T34 vs (j : Int)).f0 with
    | false => simp
    | true =>
      have hb : ∀ b : Bool, fleet_CheckVehicles.j1 (k + 1) vs vs (vs.length : Int) (j : Int) b (rd_T34 vs (j : Int)).f0 (rd_T34 vs (j : Int)).f1 (rd_T34 vs (j : Int)).f2 (rd_T34 vs (j : Int)).f3 (rd_T34 vs (j : Int)).f4 = some (if b = true then 7 else if vbad (rd_T34 vs (j : Int)) = true then 1 else vspec (rd_T34 vs (j : Int)).f0 (vs.drop (j + 1))) := by
        intro b
        simp only [fleet_CheckVehicles.j1, out_f, Option.bind_some]
        rw [w_in _ (by omega), ih]
        have hkn : keyAtN vs (j + 1) = (rd_T34 vs (j : Int)).f0 := by
          unfold keyAtN
          rw [if_neg (by omega), show ((j + 1 : Nat) : Int) - 1 = (j : Int) from by omega]
        rw [hkn]
        unfold vbad
        cases b with
        | true => simp
        | false =>
          cases decide (1 ≤ (rd_T34 vs (j : Int)).f1 ∧ (rd_T34 vs (j : Int)).f1 ≤ 1000000) <;> cases decide (0 ≤ (rd_T34 vs (j : Int)).f2 ∧ (rd_T34 vs (j : Int)).f2 ≤ (rd_T34 vs (j : Int)).f1) <;> cases decide (1 ≤ (rd_T34 vs (j : Int)).f3 ∧ (rd_T34 vs (j : Int)).f3 ≤ 1000000) <;> cases decide (0 ≤ (rd_T34 vs (j : Int)).f4 ∧ (rd_T34 vs (j : Int)).f4 ≤ 1000) <;> simp
      simp only [if_true, Bool.true_eq_false, if_false]
      by_cases h0 : j = 0
      · subst h0
        rw [if_neg (by omega), hb]
        unfold keyAtN
        rw [if_pos rfl, key_ne hkey]
        simp
      · rw [if_pos (by omega), w_in _ (by omega), if_pos (by omega), if_pos (by omega), hb]
        unfold keyAtN
        rw [if_neg h0]
        cases Op.bytesLess (rd_T34 vs ((j : Int) - 1)).f0.toList (rd_T34 vs (j : Int)).f0.toList <;> simp
theorem checkVehicles_ok (vs : List S34) (hs : ∀ v ∈ vs, v.f0.size ≤ 40) (hl : vs.length ≤ 100) : fleet_CheckVehicles.f 500 vs = some (vspec ⟨#[]⟩ vs) := by
  unfold fleet_CheckVehicles.f
  rw [if_neg (by omega)]
  exact cv_l0 vs hs (by omega) vs.length 0 500 (by omega) (by omega)
theorem vf_l0 (vs : List S34) (hs : ∀ v ∈ vs, v.f0.size ≤ 40) (hl : vs.length ≤ 1000) : ∀ (n j k : Nat) (last : ByteArray), j + n = vs.length → n + 50 ≤ k → jitref2_VehiclesFault.l0 k last vs (vs.length : Int) (j : Int) = some (vspec last (vs.drop j))
  | 0, j, k + 1, last, hj, hk => by
    simp only [jitref2_VehiclesFault.l0]
    rw [if_neg (by omega), List.drop_eq_nil_of_le (by omega)]
    rfl
  | n + 1, j, k + 1, last, hj, hk => by
    have ih := vf_l0 vs hs hl n (j + 1) k (rd_T34 vs (j : Int)).f0 (by omega) (by omega)
    rw [show ((j + 1 : Nat) : Int) = (j : Int) + 1 from by omega] at ih
    rw [drop_rd34 vs j (by omega)]
    simp only [jitref2_VehiclesFault.l0, vspec]
    rw [if_pos (by omega), if_pos (by omega), if_pos (by omega), w_in _ (by omega), ih]
    have hm := hs _ (rd_mem34 (vs := vs) (i := (j : Int)) (by omega) (by omega))
    rw [refKey_ok _ (by omega) k (by omega)]
    simp only [Option.bind_some, in_f]
    unfold vbad
    cases isKey (rd_T34 vs (j : Int)).f0 with
    | false => simp
    | true =>
      simp only [if_true]
      cases Op.bytesLess last.toList (rd_T34 vs (j : Int)).f0.toList with
      | false => simp
      | true =>
        cases decide (1 ≤ (rd_T34 vs (j : Int)).f1 ∧ (rd_T34 vs (j : Int)).f1 ≤ 1000000) <;> cases decide (0 ≤ (rd_T34 vs (j : Int)).f2 ∧ (rd_T34 vs (j : Int)).f2 ≤ (rd_T34 vs (j : Int)).f1) <;> cases decide (1 ≤ (rd_T34 vs (j : Int)).f3 ∧ (rd_T34 vs (j : Int)).f3 ≤ 1000000) <;> cases decide (0 ≤ (rd_T34 vs (j : Int)).f4 ∧ (rd_T34 vs (j : Int)).f4 ≤ 1000) <;> simp
theorem vehiclesFault_ok (vs : List S34) (hs : ∀ v ∈ vs, v.f0.size ≤ 40) (hl : vs.length ≤ 100) : jitref2_VehiclesFault.f 500 vs = some (vspec ⟨#[]⟩ vs) := by
  unfold jitref2_VehiclesFault.f
  rw [if_neg (by omega)]
  exact vf_l0 vs hs (by omega) vs.length 0 500 _ (by omega) (by omega)
theorem rd_mem37 {vs : List S37} {i : Int} (h0 : 0 ≤ i) (h1 : i < (vs.length : Int)) : rd_T37 vs i ∈ vs := by
  unfold rd_T37
  have h : i.toNat < vs.length := by omega
  simp [List.getD_eq_getElem?_getD, h]
def pbad (v : S37) : Bool := !(decide (1 ≤ v.f1 ∧ v.f1 ≤ 50) && decide (1 ≤ v.f2 ∧ v.f2 ≤ 1000000))
/-- What is wrong with places, behind one whose key is 'last'. -/
def pspec (last : ByteArray) : List S37 → Int
  | [] => 0
  | v :: r => if isKey v.f0 = false then 5 else if Op.bytesLess last.toList v.f0.toList = false then 7 else if pbad v = true then 1 else pspec v.f0 r
def pkeyAtN (vs : List S37) (j : Nat) : ByteArray := if j = 0 then ⟨#[]⟩ else (rd_T37 vs ((j : Int) - 1)).f0
theorem drop_rd37 (vs : List S37) (j : Nat) (h : j < vs.length) : vs.drop j = rd_T37 vs (j : Int) :: vs.drop (j + 1) := by
  rw [List.drop_eq_getElem_cons h]
  simp [rd_T37, List.getD_eq_getElem?_getD, h]
theorem cp_l0 (vs : List S37) (hs : ∀ v ∈ vs, v.f0.size ≤ 40) (hl : vs.length ≤ 1000) : ∀ (n j k : Nat), j + n = vs.length → 2 * n + 50 ≤ k → fleet_CheckPlaces.l0 k vs vs (vs.length : Int) (j : Int) = some (pspec (pkeyAtN vs j) (vs.drop j))
  | 0, j, k + 1, hj, hk => by
    simp only [fleet_CheckPlaces.l0]
    rw [if_neg (by omega), List.drop_eq_nil_of_le (by omega)]
    rfl
  | n + 1, j, k + 2, hj, hk => by
    have ih := cp_l0 vs hs hl n (j + 1) k (by omega) (by omega)
    rw [show ((j + 1 : Nat) : Int) = (j : Int) + 1 from by omega] at ih
    rw [drop_rd37 vs j (by omega)]
    simp only [fleet_CheckPlaces.l0, pspec]
    rw [if_pos (by omega), if_pos (by omega), if_pos (by omega)]
    have hm := hs _ (rd_mem37 (vs := vs) (i := (j : Int)) (by omega) (by omega))
    rw [baseKey_ok _ (by omega) (k + 1) (by omega)]
    simp only [Option.bind_some]
    cases hkey : isKey (rd_T37 vs (j : Int)).f0 with
    | false => simp
    | true =>
      have hb : ∀ b : Bool, fleet_CheckPlaces.j1 (k + 1) vs vs (vs.length : Int) (j : Int) b (rd_T37 vs (j : Int)).f0 (rd_T37 vs (j : Int)).f1 (rd_T37 vs (j : Int)).f2 = some (if b = true then 7 else if pbad (rd_T37 vs (j : Int)) = true then 1 else pspec (rd_T37 vs (j : Int)).f0 (vs.drop (j + 1))) := by
        intro b
        simp only [fleet_CheckPlaces.j1, out_f, Option.bind_some]
        rw [w_in _ (by omega), ih]
        have hkn : pkeyAtN vs (j + 1) = (rd_T37 vs (j : Int)).f0 := by
          unfold pkeyAtN
          rw [if_neg (by omega), show ((j + 1 : Nat) : Int) - 1 = (j : Int) from by omega]
        rw [hkn]
        unfold pbad
        cases b with
        | true => simp
        | false =>
          cases decide (1 ≤ (rd_T37 vs (j : Int)).f1 ∧ (rd_T37 vs (j : Int)).f1 ≤ 50) <;> cases decide (1 ≤ (rd_T37 vs (j : Int)).f2 ∧ (rd_T37 vs (j : Int)).f2 ≤ 1000000) <;> simp
      simp only [if_true, Bool.true_eq_false, if_false]
      by_cases h0 : j = 0
      · subst h0
        rw [if_neg (by omega), hb]
        unfold pkeyAtN
        rw [if_pos rfl, key_ne hkey]
        simp
      · rw [if_pos (by omega), w_in _ (by omega), if_pos (by omega), if_pos (by omega), hb]
        unfold pkeyAtN
        rw [if_neg h0]
        cases Op.bytesLess (rd_T37 vs ((j : Int) - 1)).f0.toList (rd_T37 vs (j : Int)).f0.toList <;> simp
theorem checkPlaces_ok (vs : List S37) (hs : ∀ v ∈ vs, v.f0.size ≤ 40) (hl : vs.length ≤ 40) : fleet_CheckPlaces.f 500 vs = some (pspec ⟨#[]⟩ vs) := by
  unfold fleet_CheckPlaces.f
  rw [if_neg (by omega)]
  exact cp_l0 vs hs (by omega) vs.length 0 500 (by omega) (by omega)
theorem pf_l0 (vs : List S37) (hs : ∀ v ∈ vs, v.f0.size ≤ 40) (hl : vs.length ≤ 1000) : ∀ (n j k : Nat) (last : ByteArray), j + n = vs.length → n + 50 ≤ k → jitref2_PlacesFault.l0 k last vs (vs.length : Int) (j : Int) = some (pspec last (vs.drop j))
  | 0, j, k + 1, last, hj, hk => by
    simp only [jitref2_PlacesFault.l0]
    rw [if_neg (by omega), List.drop_eq_nil_of_le (by omega)]
    rfl
  | n + 1, j, k + 1, last, hj, hk => by
    have ih := pf_l0 vs hs hl n (j + 1) k (rd_T37 vs (j : Int)).f0 (by omega) (by omega)
    rw [show ((j + 1 : Nat) : Int) = (j : Int) + 1 from by omega] at ih
    rw [drop_rd37 vs j (by omega)]
    simp only [jitref2_PlacesFault.l0, pspec]
    rw [if_pos (by omega), if_pos (by omega), if_pos (by omega), w_in _ (by omega), ih]
    have hm := hs _ (rd_mem37 (vs := vs) (i := (j : Int)) (by omega) (by omega))
    rw [refKey_ok _ (by omega) k (by omega)]
    simp only [Option.bind_some, in_f]
    unfold pbad
    cases isKey (rd_T37 vs (j : Int)).f0 with
    | false => simp
    | true =>
      simp only [if_true]
      cases Op.bytesLess last.toList (rd_T37 vs (j : Int)).f0.toList with
      | false => simp
      | true =>
        cases decide (1 ≤ (rd_T37 vs (j : Int)).f1 ∧ (rd_T37 vs (j : Int)).f1 ≤ 50) <;> cases decide (1 ≤ (rd_T37 vs (j : Int)).f2 ∧ (rd_T37 vs (j : Int)).f2 ≤ 1000000) <;> simp
theorem placesFault_ok (vs : List S37) (hs : ∀ v ∈ vs, v.f0.size ≤ 40) (hl : vs.length ≤ 40) : jitref2_PlacesFault.f 500 vs = some (pspec ⟨#[]⟩ vs) := by
  unfold jitref2_PlacesFault.f
  rw [if_neg (by omega)]
  exact pf_l0 vs hs (by omega) vs.length 0 500 _ (by omega) (by omega)
theorem over_ok (a b : Int) (ha : 0 ≤ a) (ha2 : a ≤ 1000000000000000000) (hb : 0 < b) (hb2 : b ≤ 1000000000000) : ∃ u, jitref2_over.f a b = some u ∧ 0 ≤ u ∧ (∀ n, a ≤ n * b ↔ u ≤ n) ∧ u ≤ a := by
  have e : jitref2_over.f a b = some ((a + b - 1) / b) := by
    unfold jitref2_over.f
    rw [if_neg (by omega), w_in (a + b) (by omega), w_in (a + b - 1) (by omega), Int.tdiv_eq_ediv_of_nonneg (by omega)]
    have h1 : 0 ≤ (a + b - 1) / b := Int.ediv_nonneg (by omega) (by omega)
    have h2 : (a + b - 1) / b ≤ a + b - 1 := Int.ediv_le_self _ (by omega)
    rw [w_in _ (by omega)]
  have h1 : 0 ≤ (a + b - 1) / b := Int.ediv_nonneg (by omega) (by omega)
  have key : ∀ n, a ≤ n * b ↔ (a + b - 1) / b ≤ n := by
    intro n
    have h3 : (a + b - 1) / b < n + 1 ↔ a + b - 1 < (n + 1) * b := Int.ediv_lt_iff_lt_mul hb
    rw [Int.add_mul, Int.one_mul] at h3
    omega
  refine ⟨_, e, h1, key, (key a).1 ?_⟩
  have h4 : a * 1 ≤ a * b := Int.mul_le_mul_of_nonneg_left (by omega) ha
  omega
theorem up_ok (a b : Int) (ha : 0 ≤ a) (ha2 : a ≤ 1000000000000000000) (hb : 0 < b) (hb2 : b ≤ 1000000000000) : fleet_up.f a b = jitref2_over.f a b := rfl
/-- What a battery has after so many milliseconds, if it could have more than all. -/
def chg (L S q h u0 long : Int) : Int := if L < S then (L + mn long u0 * q + (long - mn long u0) * h) else L + long * h
theorem mul_bd {a b A B : Int} (h0 : 0 ≤ a) (h1 : a ≤ A) (h2 : 0 ≤ b) (h3 : b ≤ B) : 0 ≤ a * b ∧ a * b ≤ A * B := ⟨Int.mul_nonneg h0 h2, Int.mul_le_mul h1 h3 h2 (by omega)⟩
/-- The numbers of a right vehicle at a right place. -/
structure Nums (F sl p level : Int) : Prop where
  F1 : 1 ≤ F
  F2 : F ≤ 1000000
  s1 : 0 ≤ sl
  s2 : sl ≤ 1000
  p1 : 1 ≤ p
  p2 : p ≤ 1000000
  l1 : 0 ≤ level
  l2 : level ≤ F
theorem slow_ok {F sl p level : Int} (H : Nums F sl p level) : wrap64 (Int.tdiv (wrap64 (F * sl)) 1000) = F * sl / 1000 ∧ 0 ≤ F * sl / 1000 ∧ F * sl / 1000 ≤ F := by
  have hm := mul_bd (a := F) (b := sl) (A := 1000000) (B := 1000) (by have := H.F1; omega) H.F2 H.s1 H.s2
  have h1 : 0 ≤ F * sl / 1000 := Int.ediv_nonneg hm.1 (by omega)
  have h2 : F * sl / 1000 ≤ F := by
    have h3 : F * sl ≤ F * 1000 := Int.mul_le_mul_of_nonneg_left H.s2 (by have := H.F1; omega)
    have h4 := Int.ediv_le_ediv (show (0 : Int) < 1000 by omega) h3
    rw [Int.mul_ediv_cancel _ (by omega)] at h4
    exact h4
  refine ⟨?_, h1, h2⟩
  have := H.F2
  rw [w_in (F * sl) (by omega), Int.tdiv_eq_ediv_of_nonneg hm.1, w_in _ (by omega)]
theorem min_div (F x : Int) (hx : 0 ≤ x) : mn F (x / 3600000000) = mn (F * 3600000000) x / 3600000000 := by
  unfold mn
  by_cases h : x < F * 3600000000
  · rw [if_pos h]
    have h1 : x / 3600000000 < F := Int.ediv_lt_of_lt_mul (by omega) h
    rw [if_pos h1]
  · rw [if_neg h, Int.mul_ediv_cancel _ (by omega)]
    have h1 : F ≤ x / 3600000000 := Int.le_ediv_of_mul_le (by omega) (by omega)
    rw [if_neg (by omega)]
theorem gainTail_ok {F sl p level : Int} (H : Nums F sl p level) (M R : Int) (hM : 0 ≤ M) (hM2 : M ≤ 4000000000000000) (hR : 0 ≤ R) (hR2 : R ≤ 100000000000000) : gainTail M R F p = some (mn F ((M + R * (500 * p)) / 3600000000)) := by
  have h1 := H.F1; have h2 := H.F2; have h3 := H.p1; have h4 := H.p2
  unfold gainTail
  by_cases hp : 0 < R
  · rw [if_pos hp]
    rw [w_in (F * 3600000000) (by omega), w_in (F * 3600000000 - M) (by omega), w_in (500 * p) (by omega)]
    have hd : 0 ≤ mx 0 (F * 3600000000 - M) ∧ mx 0 (F * 3600000000 - M) ≤ 3600000000000000 ∧ F * 3600000000 - M ≤ mx 0 (F * 3600000000 - M) ∧ (mx 0 (F * 3600000000 - M) = 0 ∨ mx 0 (F * 3600000000 - M) = F * 3600000000 - M) := by unfold mx; split <;> omega
    obtain ⟨u, e, hu, hk, _⟩ := over_ok (mx 0 (F * 3600000000 - M)) (500 * p) hd.1 (by omega) (by omega) (by omega)
    rw [e]
    simp only [Option.bind_some]
    have hmn : 0 ≤ mn R u ∧ mn R u ≤ R ∧ mn R u ≤ u := by unfold mn; split <;> omega
    -- what is charged does not go far above all
    have hb1 : mn R u * (500 * p) ≤ 3600000000000000 + 500 * p := by
      by_cases hz : mn R u = 0
      · rw [hz]; omega
      · have h5 : ¬ mx 0 (F * 3600000000 - M) ≤ (mn R u - 1) * (500 * p) := by rw [hk]; omega
        rw [Int.sub_mul] at h5
        omega
    have hb0 : 0 ≤ mn R u * (500 * p) := Int.mul_nonneg hmn.1 (by omega)
    have hb5 : mn R u * 500 ≤ 100000000000000 * 500 := by omega
    have e5 : mn R u * 500 * p = mn R u * (500 * p) := Int.mul_assoc _ _ _
    rw [w_in (mn R u * 500) (by omega), w_in (mn R u * 500 * p) (by omega), e5, w_in (M + mn R u * (500 * p)) (by omega), Int.tdiv_eq_ediv_of_nonneg (by omega)]
    have h6 : 0 ≤ (M + mn R u * (500 * p)) / 3600000000 := Int.ediv_nonneg (by omega) (by omega)
    have h7 : (M + mn R u * (500 * p)) / 3600000000 ≤ M + mn R u * (500 * p) := Int.ediv_le_self _ (by omega)
    rw [w_in _ (by omega)]
    congr 1
    have hRp : 0 ≤ R * (500 * p) := Int.mul_nonneg hR (by omega)
    rw [min_div F _ (by omega), min_div F _ (by omega)]
    congr 1
    by_cases hru : R ≤ u
    · have : mn R u = R := by unfold mn; rw [if_neg (by omega)]
      rw [this]
    · have hu2 : mn R u = u := by unfold mn; rw [if_pos (by omega)]
      rw [hu2]
      have h8 := (hk u).2 (Int.le_refl _)
      have h9 : u * (500 * p) ≤ R * (500 * p) := Int.mul_le_mul_of_nonneg_right (by omega) (by omega)
      have h10 : ¬ M + u * (500 * p) < F * 3600000000 := by omega
      have h11 : ¬ M + R * (500 * p) < F * 3600000000 := by omega
      unfold mn
      rw [if_neg h10, if_neg h11]
  · rw [if_neg hp]
    obtain rfl : R = 0 := by omega
    have h6 : 0 ≤ M / 3600000000 := Int.ediv_nonneg hM (by omega)
    have h7 : M / 3600000000 ≤ M := Int.ediv_le_self _ hM
    rw [Int.tdiv_eq_ediv_of_nonneg hM, w_in _ (by omega), Int.zero_mul, Int.add_zero]
/-- The reference's gain: what there is, at most all. -/
theorem refGain_ok {F sl p level : Int} (H : Nums F sl p level) (k1 k2 : ByteArray) (least pv pp plugs : Int) (hpp : mn pv pp = p) : ∃ u0, 0 ≤ u0 ∧ (∀ n, F * sl / 1000 * 3600000000 - level * 3600000000 ≤ n * (1000 * p) ↔ (level * 3600000000 < F * sl / 1000 * 3600000000 → u0 ≤ n) ∧ (¬ level * 3600000000 < F * sl / 1000 * 3600000000 → F * sl / 1000 * 3600000000 - level * 3600000000 ≤ n * (1000 * p))) ∧
    (level * 3600000000 < F * sl / 1000 * 3600000000 → ∀ n, F * sl / 1000 * 3600000000 - level * 3600000000 ≤ n * (1000 * p) ↔ u0 ≤ n) ∧ (level * 3600000000 < F * sl / 1000 * 3600000000 → fleet_up.f (F * sl / 1000 * 3600000000 - level * 3600000000) (1000 * p) = some u0) ∧
    ∀ long, 0 ≤ long → long ≤ 100000000000000 → jitref2_GainOf.f k1 F least pv sl k2 plugs pp level long = some (mn F (chg (level * 3600000000) (F * sl / 1000 * 3600000000) (1000 * p) (500 * p) u0 long / 3600000000)) := by
  have h1 := H.F1; have h2 := H.F2; have h3 := H.p1; have h4 := H.p2; have h5 := H.l1; have h6 := H.l2
  obtain ⟨s1, s2, s3⟩ := slow_ok H
  by_cases hlt : level * 3600000000 < F * sl / 1000 * 3600000000
  · obtain ⟨u0, e0, hu0, hk0, _⟩ := over_ok (F * sl / 1000 * 3600000000 - level * 3600000000) (1000 * p) (by omega) (by omega) (by omega) (by omega)
    refine ⟨u0, hu0, fun n => ⟨fun h => ⟨fun _ => (hk0 n).1 h, fun h' => absurd hlt h'⟩, fun h => (hk0 n).2 (h.1 hlt)⟩, fun _ => hk0, fun _ => (up_ok _ _ (by omega) (by omega) (by omega) (by omega)).trans e0, fun long hl0 hl1 => ?_⟩
    unfold jitref2_GainOf.f
    rw [hpp, s1, w_in (level * 3600000000) (by omega), w_in (F * sl / 1000 * 3600000000) (by omega), if_pos hlt, w_in (F * sl / 1000 * 3600000000 - level * 3600000000) (by omega), w_in (1000 * p) (by omega), e0]
    simp only [Option.bind_some]
    have hmn : 0 ≤ mn long u0 ∧ mn long u0 ≤ long ∧ mn long u0 ≤ u0 := by unfold mn; split <;> omega
    have hb1 : mn long u0 * (1000 * p) ≤ 3600000000000000 + 1000 * p := by
      by_cases hz : mn long u0 = 0
      · rw [hz]; omega
      · have h5 : ¬ F * sl / 1000 * 3600000000 - level * 3600000000 ≤ (mn long u0 - 1) * (1000 * p) := by rw [hk0]; omega
        rw [Int.sub_mul] at h5
        omega
    have hb2 : level * 3600000000 + mn long u0 * (1000 * p) ≤ 3600000000000000 + 1000 * p := by
      by_cases hz : mn long u0 = 0
      · rw [hz]; omega
      · have h5 : ¬ F * sl / 1000 * 3600000000 - level * 3600000000 ≤ (mn long u0 - 1) * (1000 * p) := by rw [hk0]; omega
        rw [Int.sub_mul] at h5
        omega
    have hb0 : 0 ≤ mn long u0 * (1000 * p) := Int.mul_nonneg hmn.1 (by omega)
    have e5 : mn long u0 * 1000 * p = mn long u0 * (1000 * p) := Int.mul_assoc _ _ _
    rw [w_in (mn long u0 * 1000) (by omega), w_in (mn long u0 * 1000 * p) (by omega), e5, w_in (level * 3600000000 + mn long u0 * (1000 * p)) (by omega), w_in (long - mn long u0) (by omega)]
    rw [gainTail_ok H _ _ (by omega) (by omega) (by omega) (by omega)]
    unfold chg
    rw [if_pos hlt]
  · refine ⟨0, by omega, fun n => ⟨fun h => ⟨fun h' => absurd h' hlt, fun _ => h⟩, fun h => h.2 hlt⟩, fun h' => absurd h' hlt, fun h' => absurd h' hlt, fun long hl0 hl1 => ?_⟩
    unfold jitref2_GainOf.f
    rw [hpp, s1, w_in (level * 3600000000) (by omega), w_in (F * sl / 1000 * 3600000000) (by omega), if_neg hlt, w_in (level * 3600000000) (by omega), w_in long (by omega)]
    rw [gainTail_ok H _ _ (by omega) (by omega) (by omega) (by omega)]
    unfold chg
    rw [if_neg hlt]
end Go.Proofs.Ytfphebbfgphldaa.PBatteriesGain

