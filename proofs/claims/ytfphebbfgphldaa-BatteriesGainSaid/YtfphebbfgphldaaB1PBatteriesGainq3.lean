import Derived.Test.YtfphebbfgphldaaB1PBatteriesGainq3b
namespace Go.Proofs.Ytfphebbfgphldaa.PBatteriesGain
open Go.RowKit Go.Proofs.YtfphebbfgphldaaW.PrintWords Go.Proofs.YtfphebbfgphldaaW.PrintLast Go.Proofs.YtfphebbfgphldaaW.PrintMore Go.Proofs.Ytfphebbfgphldaa.MLib 
attribute [local go_sem] max2_int min2_int max_two min_two 
set_option linter.unusedVariables false
set_option linter.unusedSimpArgs false
def batt.T5 : Bool × List (List Nat × List Nat) := (true, [([], []), ([0], [0]), ([], []), ([], []), ([], []), ([4], [4]), ([3, 5, 1], [3, 5]), ([2, 6], [2, 6]), ([7], [7]), ([], []), ([], []), ([9, 1, 6, 0, 1, 9, 10], [1, 9]), ([10, 8, 11, 0, 1, 2, 3, 4, 5, 6, 7, 8, 9, 10, 11], [8, 10])])
def batt.B5 : List Nat := [0, 1, 0, 0, 0, 16, 59, 127, 255, 0, 0, 1659, 4095]
theorem batt.tab5 : rtab .any (opsOf Try.f3 5) = batt.T5 := by kernel_rfl
theorem batt.bits5 : waitsOk batt.T5.2 batt.B5 = true := by kernel_rfl
set_option maxHeartbeats 8000000 in
set_option maxRecDepth 100000 in
theorem walk_core (A0 : Option Addr) (c0 : Nat) (L : List Int) (w : World) (hc0 : L.length ≤ c0) (hl : Ints L) (hr0 : Kd.C (Kd.int .i64) w A0 L.length L) :
    Calls Try.prog 3 #[.slice A0 L.length c0] w fun e w' => e = .returned (.bool true) ∧ Below w.heap.size w w' := by
  obtain ⟨vs, a1, hvs, hvl, hvo, ha1, ha1'⟩ := vehicles_ok hl 0 (by omega) (by omega)
  obtain ⟨ps, a2, hps, hp0, hpl, hpo, ha2, ha2'⟩ := places_ok hl a1 (by omega) (by omega)
  have HF := Aside0.mk hr0
  have HL := Aside0.mk hl
  clear hr0 hl
  go_enter Try.func3, Try.ntmps3
  go_wp2_with (first | ((with_reducible refine gate_dst (N := 22) rfl ?_); refine box_event ?hg (N := 22) ?hd (cs := #[.slice A0 L.length c0, .int .i64 0]) (t := 25) ?hr ?_; (case hd => rfl); (case hg => rfl); (case hr => first | (go_simp; done) | (go_simp; rfl)); intro g hgg w1 hbox hb; have HI := Aside0.mk (⟨A0, c0, hbox, Nat.le_of_eq hgg.symm, HF.out⟩ : IsS25 w w1 g L 0); have HB := Aside0.mk hb; clear hbox hb hgg) | fail)
  refine (jitmake_Stream_Vehicles.calls 4 g L 0 vs a1 w w1 HI.out HB.out hvs).mono ?_
  rintro e w2 ⟨v0, rfl, hR, hI2, hB2, hK⟩
  obtain ⟨Av, cv, rfl⟩ := Kd.R_slice hR
  clear HI HB
  have HI := Aside0.mk hI2
  have HB := Aside0.mk hB2
  have HV := Aside0.mk hR
  clear hI2 hB2 hR hK
  go_wp2_with fail
  refine (jitmake_Stream_Places.calls g L a1 ps a2 w w2 HI.out HB.out hps).mono ?_
  rintro e w3 ⟨v0, rfl, hR, hI2, hB2, hK⟩
  obtain ⟨ad, cp, rfl⟩ := Kd.R_slice1 hR hp0
  have HV2 := Aside0.mk (keepR HI.out (by decide) hK HV.out)
  clear HI HB HV hK
  have HI := Aside0.mk hI2
  have HB := Aside0.mk hB2
  have HV := HV2
  have HP := Aside0.mk hR
  clear hI2 hB2 hR HV2
  obtain ⟨qv, hqv⟩ : ∃ q, vspec ⟨#[]⟩ vs = q := ⟨_, rfl⟩
  obtain ⟨qp, hqp⟩ : ∃ q, pspec ⟨#[]⟩ ps = q := ⟨_, rfl⟩
  have hcv : fleet_CheckVehicles.f 500 vs = some qv := hqv ▸ checkVehicles_ok vs (fun v hv => (hvo v hv).1) (by omega)
  have hcr : jitref2_VehiclesFault.f 500 vs = some qv := hqv ▸ vehiclesFault_ok vs (fun v hv => (hvo v hv).1) (by omega)
  have hpv : fleet_CheckPlaces.f 500 ps = some qp := hqp ▸ checkPlaces_ok ps (fun v hv => (hpo v hv).1) (by omega)
  have hpr : jitref2_PlacesFault.f 500 ps = some qp := hqp ▸ placesFault_ok ps (fun v hv => (hpo v hv).1) (by omega)
  clear hqv hqp
  go_wp2_with fail
  refine (fleet_CheckVehicles.calls 500 _ _ vs qv _ (Kd.R_reads' HV.out).2.2 (Kd.R_reads' HV.out).2.1 hcv).mono ?_
  rintro e w4 ⟨rfl, hb⟩
  have n0 := Aside0.mk (HI.out.below hb)
  have n1 := Aside0.mk (below_step HB.out hb)
  have n2 := Aside0.mk (Kd.R_below HV.out hb)
  have n3 := Aside0.mk (Kd.R_below HP.out hb)
  clear HI HB HV HP hb
  have HI := n0
  have HB := n1
  have HV := n2
  have HP := n3
  clear n0 n1 n2 n3
  go_wp2_with fail
  refine (jitref2_VehiclesFault.calls 500 _ _ vs qv _ (Kd.R_reads' HV.out).2.2 (Kd.R_reads' HV.out).2.1 hcr).mono ?_
  rintro e w5 ⟨rfl, hb⟩
  have n0 := Aside0.mk (HI.out.below hb)
  have n1 := Aside0.mk (below_step HB.out hb)
  have n2 := Aside0.mk (Kd.R_below HV.out hb)
  have n3 := Aside0.mk (Kd.R_below HP.out hb)
  clear HI HB HV HP hb
  have HI := n0
  have HB := n1
  have HV := n2
  have HP := n3
  clear n0 n1 n2 n3
  go_wp2_with fail
  refine (fleet_CheckPlaces.calls 500 _ _ ps qp _ (Kd.R_reads' HP.out).2.2 (Kd.R_reads' HP.out).2.1 hpv).mono ?_
  rintro e w6 ⟨rfl, hb⟩
  have n0 := Aside0.mk (HI.out.below hb)
  have n1 := Aside0.mk (below_step HB.out hb)
  have n2 := Aside0.mk (Kd.R_below HV.out hb)
  have n3 := Aside0.mk (Kd.R_below HP.out hb)
  clear HI HB HV HP hb
  have HI := n0
  have HB := n1
  have HV := n2
  have HP := n3
  clear n0 n1 n2 n3
  go_wp2_with fail
  refine (jitref2_PlacesFault.calls 500 _ _ ps qp _ (Kd.R_reads' HP.out).2.2 (Kd.R_reads' HP.out).2.1 hpr).mono ?_
  rintro e w7 ⟨rfl, hb⟩
  have n0 := Aside0.mk (HI.out.below hb)
  have n1 := Aside0.mk (below_step HB.out hb)
  have n2 := Aside0.mk (Kd.R_below HV.out hb)
  have n3 := Aside0.mk (Kd.R_below HP.out hb)
  clear HI HB HV HP hb
  have HI := n0
  have HB := n1
  have HV := n2
  have HP := n3
  clear n0 n1 n2 n3
  go_wp2_with fail
  obtain ⟨M, hM⟩ : ∃ M, w7.heap.size = M := ⟨_, rfl⟩
  have hgM := Aside0.mk (show g < M from hM ▸ HI.out.lt)
  have n0 := Aside0.mk (Kd.R_mono (Kd.R_bound (HI.out.apart HV.out (by decide))) (ok' := fun k => k < M ∧ k ≠ g) (fun k hk => ⟨hM ▸ hk.2.2.1, hk.1.2⟩))
  have n1 := Aside0.mk (Kd.R_mono (Kd.R_bound (HI.out.apart HP.out (by decide))) (ok' := fun k => k < M ∧ k ≠ g) (fun k hk => ⟨hM ▸ hk.2.2.1, hk.1.2⟩))
  have HM := Aside0.mk (Nat.le_of_eq hM.symm)
  have hwM := Aside0.mk (show w.heap.size ≤ M from hM ▸ HB.out.size)
  have SI0 := HI
  clear HV HP HI hM
  have HV := n0
  have HP := n1
  clear n0 n1
  obtain ⟨r2, r3, r4, r5, hrv0, hb2, hb3, hb4, hb5⟩ := rightVehicle_ok HL.out a2 ⟨#[118, 97]⟩ (by omega) (by omega)
  obtain ⟨n1, hnx0, hn00, hn10⟩ := next_ok HL.out (a2 + 4) (ps.length : Int) (by omega) (by omega) (by omega) (by omega)
  obtain ⟨a3, ha3⟩ : ∃ a, a2 + 4 = a := ⟨_, rfl⟩
  rw [ha3] at hrv0 hnx0
  obtain ⟨pv, hpv0⟩ : ∃ p, rd_T37 ps n1 = p := ⟨_, rfl⟩
  have hpo1 : POk pv := hpv0 ▸ hpo _ (rd_mem37 hn00 hn10)
  have hrv := Aside0.mk hrv0
  have hnx := Aside0.mk hnx0
  have hpv := Aside0.mk hpv0
  have hn0 := Aside0.mk hn00
  have hn1 := Aside0.mk hn10
  have HA := Aside0.mk (show 0 ≤ a3 ∧ a3 ≤ 100 by omega)
  clear hrv0 hnx0 hpv0 hn00 hn10 ha3
  refine start_ (n := 13) (S := fun w' => True) (ds := []) #[false, false, false, false, false, false, false, false, false, false, false, false, false] (by kernel_rfl) rfl rfl trivial (fun hHeld => ?_)
  refine with_tabW batt.tab5 batt.bits5 (fun HT_ HW_ => ?_)
  have n0 := Aside0.mk (IsS25.drew SI0.out)
  have n1 := Aside0.mk (below_drew1 HB.out)
  have n2 := Aside0.mk (Kd.R_drew HV.out)
  have n3 := Aside0.mk (Kd.R_drew HP.out)
  have n4 := Aside0.mk (show M ≤ w7.drew.heap.size from HM.out)
  clear SI0 HB HV HP HM hHeld
  generalize w7.drew = w8 at n0 n1 n2 n3 n4 ⊢
  have SI0 := n0
  have HB := n1
  have HV := n2
  have HP := n3
  have HM := n4
  clear n0 n1 n2 n3 n4
  refine pure_ (i := 0) (N := some 39) (v := ?_) (a' := ?_) #[true, false, false, false, false, false, false, false, false, false, false, false, false] rfl rfl (any_of HT_.out (by kernel_rfl)) (fun _ _ _ h => h) (Or.inl ⟨by rfl, ?_⟩) ?_ ?_
  rotate_left
  · intro w'
    go_simp
    with_reducible rfl
  rotate_left
  · simp only [Act.put, List.setIfInBounds_toArray, List.set_cons_zero, List.set_cons_succ, i64_w, i32_w]
    rfl
  refine pure_ (i := 2) (N := some 41) (v := ?_) (a' := ?_) #[true, false, true, false, false, false, false, false, false, false, false, false, false] rfl rfl (any_of HT_.out (by kernel_rfl)) (fun _ _ _ h => h) (Or.inl ⟨by rfl, ?_⟩) ?_ ?_
  rotate_left
  · intro w'
    go_simp
    with_reducible rfl
  rotate_left
  · simp only [Act.put, List.setIfInBounds_toArray, List.set_cons_zero, List.set_cons_succ, i64_w, i32_w]
    rfl
  refine pure_ (i := 3) (N := some 42) (v := ?_) (a' := ?_) #[true, false, true, true, false, false, false, false, false, false, false, false, false] rfl rfl (any_of HT_.out (by kernel_rfl)) (fun _ _ _ h => h) (Or.inl ⟨by rfl, ?_⟩) ?_ ?_
  rotate_left
  · intro w'
    go_simp
    with_reducible rfl
  rotate_left
  · simp only [Act.put, List.setIfInBounds_toArray, List.set_cons_zero, List.set_cons_succ, i64_w, i32_w]
    rfl
  refine pure_ (i := 4) (N := some 43) (v := ?_) (a' := ?_) #[true, false, true, true, true, false, false, false, false, false, false, false, false] rfl rfl (any_of HT_.out (by kernel_rfl)) (fun _ _ _ h => h) (Or.inl ⟨by rfl, ?_⟩) ?_ ?_
  rotate_left
  · intro w'
    go_simp
    with_reducible rfl
  rotate_left
  · simp only [Act.put, List.setIfInBounds_toArray, List.set_cons_zero, List.set_cons_succ, i64_w, i32_w]
    rfl
  refine pure_ (i := 5) (N := some 44) (v := ?_) (a' := ?_) #[true, false, true, true, true, true, false, false, false, false, false, false, false] rfl rfl (any_of HT_.out (by kernel_rfl)) (fun _ _ _ h => h) (Or.inl ⟨by rfl, ?_⟩) ?_ ?_
  rotate_left
  · intro w'
    go_simp
    with_reducible rfl
  rotate_left
  · simp only [Act.put, List.setIfInBounds_toArray, List.set_cons_zero, List.set_cons_succ, i64_w, i32_w]
    rfl
  refine inv_at [1, 6, 7, 8, 9, 10, 11, 12] (fun a0_ b a w' => ∃ (g6 : Nat) (g7 : Nat) (m9_ : Value) (m10_ : Value), a = putSel a0_ b [(1, 40, .agg #[.string ⟨#[118, 97]⟩, .int .i64 r2, .int .i64 r3, .int .i64 r4, .int .i64 r5]), (6, 45, .int .i64 n1), (7, 46, .pointer (some (ad.add (n1.toNat * 3)))), (8, 47, .agg #[.string pv.f0, .int .i64 pv.f1, .int .i64 pv.f2]), (9, 6, m9_), (10, 7, m10_)] ∧ (b 1 = false → IsS25 w w' g L a2) ∧ (b 1 = true → b 6 = false → IsS25 w w' g L a3) ∧ (b 6 = true → IsS25 w w' g L (a3 + 1)) ∧ (Below w.heap.size w w') ∧ (k34.R 34 w' w1.heap.size (fun k => k < M ∧ k ≠ g) (.slice Av vs.length cv) vs) ∧ (k37.R 37 w' w2.heap.size (fun k => k < M ∧ k ≠ g) (.slice (some ad) ps.length cp) ps) ∧ (M ≤ w'.heap.size) ∧ (b 9 = true → M ≤ g6 ∧ g6 < w'.heap.size) ∧ (b 10 = true → M ≤ g7 ∧ g7 < w'.heap.size) ∧ (b 9 = true → b 10 = true → g6 ≠ g7) ∧ (b 9 = true → b 11 = false → w'.heap[g6]? = some (.cells #[.string ⟨#[]⟩, .int .i64 0, .int .i64 0, .int .i64 0, .int .i64 0] 34)) ∧ (b 11 = true → w'.heap[g6]? = some (.cells #[.string ⟨#[118, 97]⟩, .int .i64 r2, .int .i64 r3, .int .i64 r4, .int .i64 r5] 34)) ∧ (b 10 = true → b 12 = false → w'.heap[g7]? = some (.cells #[.string ⟨#[]⟩, .int .i64 0, .int .i64 0] 37)) ∧ (b 12 = true → w'.heap[g7]? = some (.cells #[.string pv.f0, .int .i64 pv.f1, .int .i64 pv.f2] 37)) ∧ (b 9 = true → (m9_ : Value) = .pointer (some ⟨g6, 0, none⟩)) ∧ (b 10 = true → (m10_ : Value) = .pointer (some ⟨g7, 0, none⟩))) HT_.out HW_.out (by kernel_rfl) (by kernel_rfl) ?_ ?_ ?_
  · exact ⟨0, 0, .bool false, .bool false, by simp only [putSel, Bool.false_eq_true, if_false], fun _ => SI0.out, fun h_ => absurd h_ (by decide), fun h_ => absurd h_ (by decide), HB.out, HV.out, HP.out, HM.out, fun h_ => absurd h_ (by decide), fun h_ => absurd h_ (by decide), fun h_ => absurd h_ (by decide), fun h_ => absurd h_ (by decide), fun h_ => absurd h_ (by decide), fun h_ => absurd h_ (by decide), fun h_ => absurd h_ (by decide), fun h_ => absurd h_ (by decide), fun h_ => absurd h_ (by decide)⟩
  · skip
    clear HB HM HP HV SI0
    refine steps_cons ?_ ?_
    · rintro b a w' ⟨g6, g7, m9_, m10_, ha, Q_SI0, Q_SI1, Q_SI2, Q_HB, Q_HV, Q_HP, Q_HM, Q_G6, Q_G7, Q_N67, Q_B6z, Q_B6, Q_B7z, Q_B7, Q_X9_, Q_X10_⟩ hb_ hon hoff
      refine ⟨_, rfl, fun K hK => ?_⟩
      have e39 : a.tmps[39]? = some (.pointer (some ⟨g, 0, none⟩)) := by rw [ha]; exact (putSel_off rfl).trans rfl
      replace ha := Aside0.mk ha
      have SI0 := Aside0.mk (Q_SI0 hb_)
      have HB := Aside0.mk Q_HB
      have HV := Aside0.mk Q_HV
      have HP := Aside0.mk Q_HP
      have HM := Aside0.mk Q_HM
      refine goes_ Try.func15 (by kernel_rfl) rfl #[.pointer (some ⟨g, 0, none⟩), .string ⟨#[118, 97]⟩] (by rfl) rfl rfl (by first | (simp only [List.map_toArray, List.map_cons, List.map_nil, Act.eval, Array.getD_eq_getD_getElem?, Option.getD_some, e39]; done) | (simp only [List.map_toArray, List.map_cons, List.map_nil, Act.eval, Array.getD_eq_getD_getElem?, Option.getD_some, e39]; rfl)) ?_
      refine (jitmake_Stream_RightVehicle.calls g L a2 ⟨#[118, 97]⟩ ⟨#[118, 97]⟩ r2 r3 r4 r5 a3 w w' SI0.out HB.out hrv.out).mono ?_
      rintro e w9 ⟨rfl, hI_, hB_, hk_⟩
      refine ⟨_, rfl, ?_⟩
      refine hK.out _ _ ⟨g6, g7, m9_, m10_, (by rw [ha.out]; exact putSel_upk 0 hb_ rfl rfl rfl), fun h0_ => absurd ((up_self b 1).symm.trans h0_) (by decide), fun h0_ h1_ => hI_, fun h0_ => absurd ((hoff 6 (by kernel_rfl)).symm.trans h0_) (by decide), hB_, Kd.R_keep HV.out hk_ (fun _ h => h.2), Kd.R_keep HP.out hk_ (fun _ h => h.2), Nat.le_trans HM.out hk_.1, fun h0_ => ⟨(Q_G6 h0_).1, Nat.lt_of_lt_of_le (Q_G6 h0_).2 hk_.1⟩, fun h0_ => ⟨(Q_G7 h0_).1, Nat.lt_of_lt_of_le (Q_G7 h0_).2 hk_.1⟩, Q_N67, fun h0_ h1_ => hk_.blk (Q_B6z h0_ h1_) (Nat.ne_of_gt (Nat.lt_of_lt_of_le hgM.out (Q_G6 h0_).1)) (by simp), fun h0_ => absurd ((hoff 11 (by kernel_rfl)).symm.trans h0_) (by decide), fun h0_ h1_ => hk_.blk (Q_B7z h0_ h1_) (Nat.ne_of_gt (Nat.lt_of_lt_of_le hgM.out (Q_G7 h0_).1)) (by simp), fun h0_ => absurd ((hoff 12 (by kernel_rfl)).symm.trans h0_) (by decide), Q_X9_, Q_X10_⟩
    refine steps_cons ?_ ?_
    · rintro b a w' ⟨g6, g7, m9_, m10_, ha, Q_SI0, Q_SI1, Q_SI2, Q_HB, Q_HV, Q_HP, Q_HM, Q_G6, Q_G7, Q_N67, Q_B6z, Q_B6, Q_B7z, Q_B7, Q_X9_, Q_X10_⟩ hb_ hon hoff
      refine ⟨_, rfl, fun K hK => ?_⟩
      have e42 : a.tmps[42]? = some (.pointer (some ⟨g, 0, none⟩)) := by rw [ha]; exact (putSel_off rfl).trans rfl
      have e44 : a.tmps[44]? = some (.int .i64 (ps.length : Int)) := by rw [ha]; exact (putSel_off rfl).trans rfl
      replace ha := Aside0.mk ha
      have SI1 := Aside0.mk (Q_SI1 (hon 1 (by kernel_rfl)) hb_)
      have HB := Aside0.mk Q_HB
      have HV := Aside0.mk Q_HV
      have HP := Aside0.mk Q_HP
      have HM := Aside0.mk Q_HM
      refine goes_ Try.func16 (by kernel_rfl) rfl #[.pointer (some ⟨g, 0, none⟩), .int .i64 (ps.length : Int)] (by rfl) rfl rfl (by first | (simp only [List.map_toArray, List.map_cons, List.map_nil, Act.eval, Array.getD_eq_getD_getElem?, Option.getD_some, e42, e44]; done) | (simp only [List.map_toArray, List.map_cons, List.map_nil, Act.eval, Array.getD_eq_getD_getElem?, Option.getD_some, e42, e44]; rfl)) ?_
      refine (jitmake_Stream_Next.calls g L a3 (ps.length : Int) n1 (a3 + 1) w w' SI1.out HB.out hnx.out).mono ?_
      rintro e w9 ⟨rfl, hI_, hB_, hk_⟩
      refine ⟨_, rfl, ?_⟩
      refine hK.out _ _ ⟨g6, g7, m9_, m10_, (by rw [ha.out]; exact putSel_upk 1 hb_ rfl rfl rfl), fun h0_ => absurd ((hon 1 (by kernel_rfl)).symm.trans h0_) (by decide), fun _ h1_ => absurd ((up_self b 6).symm.trans h1_) (by decide), fun h0_ => hI_, hB_, Kd.R_keep HV.out hk_ (fun _ h => h.2), Kd.R_keep HP.out hk_ (fun _ h => h.2), Nat.le_trans HM.out hk_.1, fun h0_ => ⟨(Q_G6 h0_).1, Nat.lt_of_lt_of_le (Q_G6 h0_).2 hk_.1⟩, fun h0_ => ⟨(Q_G7 h0_).1, Nat.lt_of_lt_of_le (Q_G7 h0_).2 hk_.1⟩, Q_N67, fun h0_ h1_ => hk_.blk (Q_B6z h0_ h1_) (Nat.ne_of_gt (Nat.lt_of_lt_of_le hgM.out (Q_G6 h0_).1)) (by simp), fun h0_ => absurd ((hoff 11 (by kernel_rfl)).symm.trans h0_) (by decide), fun h0_ h1_ => hk_.blk (Q_B7z h0_ h1_) (Nat.ne_of_gt (Nat.lt_of_lt_of_le hgM.out (Q_G7 h0_).1)) (by simp), fun h0_ => absurd ((hoff 12 (by kernel_rfl)).symm.trans h0_) (by decide), Q_X9_, Q_X10_⟩
    refine steps_cons ?_ ?_
    · rintro b a w' ⟨g6, g7, m9_, m10_, ha, Q_SI0, Q_SI1, Q_SI2, Q_HB, Q_HV, Q_HP, Q_HM, Q_G6, Q_G7, Q_N67, Q_B6z, Q_B6, Q_B7z, Q_B7, Q_X9_, Q_X10_⟩ hb_ hon hoff
      refine ⟨_, rfl, fun K hK => ?_⟩
      have e41 : a.tmps[41]? = some (.slice (some ad) ps.length cp) := by rw [ha]; exact (putSel_off rfl).trans rfl
      have e45 : a.tmps[45]? = some (.int .i64 n1) := by rw [ha]; exact putSel_on (e := (6, 45, .int .i64 n1)) 1 rfl rfl (hon 6 (by kernel_rfl)) rfl
      replace ha := Aside0.mk ha
      have SI2 := Aside0.mk (Q_SI2 (hon 6 (by kernel_rfl)))
      have HB := Aside0.mk Q_HB
      have HV := Aside0.mk Q_HV
      have HP := Aside0.mk Q_HP
      have HM := Aside0.mk Q_HM
      have i0 := hn0.out
      have i1 := hn1.out
      refine value_ (w1 := w') (v := .pointer (some (ad.add (n1.toNat * 3)))) (by rfl) rfl ?_ ?_
      · go_simp
        (try simp only [i64_w])
        try rfl
      refine hK.out _ _ ⟨g6, g7, m9_, m10_, (by rw [ha.out]; exact putSel_upk 2 hb_ rfl rfl rfl), fun h0_ => absurd ((hon 1 (by kernel_rfl)).symm.trans h0_) (by decide), fun _ h1_ => absurd ((hon 6 (by kernel_rfl)).symm.trans h1_) (by decide), Q_SI2, Q_HB, Q_HV, Q_HP, Q_HM, Q_G6, Q_G7, Q_N67, Q_B6z, Q_B6, Q_B7z, fun h0_ => absurd ((hoff 12 (by kernel_rfl)).symm.trans h0_) (by decide), Q_X9_, Q_X10_⟩
    refine steps_cons ?_ ?_
    · rintro b a w' ⟨g6, g7, m9_, m10_, ha, Q_SI0, Q_SI1, Q_SI2, Q_HB, Q_HV, Q_HP, Q_HM, Q_G6, Q_G7, Q_N67, Q_B6z, Q_B6, Q_B7z, Q_B7, Q_X9_, Q_X10_⟩ hb_ hon hoff
      refine ⟨_, rfl, fun K hK => ?_⟩
      have e46 : a.tmps[46]? = some (.pointer (some (ad.add (n1.toNat * 3)))) := by rw [ha]; exact putSel_on (e := (7, 46, .pointer (some (ad.add (n1.toNat * 3))))) 2 rfl rfl (hon 7 (by kernel_rfl)) rfl
      replace ha := Aside0.mk ha
      have SI2 := Aside0.mk (Q_SI2 (hon 6 (by kernel_rfl)))
      have HB := Aside0.mk Q_HB
      have HV := Aside0.mk Q_HV
      have HP := Aside0.mk Q_HP
      have HM := Aside0.mk Q_HM
      obtain ⟨ad1, ea_, c0, c1, c2⟩ := at_T37 (Kd.R_reads' HP.out).2.2 n1 hn0.out hn1.out
      cases ea_
      rw [hpv.out] at c0 c1 c2
      refine value_ (w1 := w') (v := .agg #[.string pv.f0, .int .i64 pv.f1, .int .i64 pv.f2]) (by rfl) rfl ?_ ?_
      · go_simp
        (try simp only [i64_w])
        try rfl
      refine hK.out _ _ ⟨g6, g7, m9_, m10_, (by rw [ha.out]; exact putSel_upk 3 hb_ rfl rfl rfl), fun h0_ => absurd ((hon 1 (by kernel_rfl)).symm.trans h0_) (by decide), fun _ h1_ => absurd ((hon 6 (by kernel_rfl)).symm.trans h1_) (by decide), Q_SI2, Q_HB, Q_HV, Q_HP, Q_HM, Q_G6, Q_G7, Q_N67, Q_B6z, Q_B6, Q_B7z, fun h0_ => absurd ((hoff 12 (by kernel_rfl)).symm.trans h0_) (by decide), Q_X9_, Q_X10_⟩
    refine steps_cons ?_ ?_
    · rintro b a w' ⟨g6, g7, m9_, m10_, ha, Q_SI0, Q_SI1, Q_SI2, Q_HB, Q_HV, Q_HP, Q_HM, Q_G6, Q_G7, Q_N67, Q_B6z, Q_B6, Q_B7z, Q_B7, Q_X9_, Q_X10_⟩ hb_ hon hoff
      refine ⟨_, rfl, fun K hK => ?_⟩
      replace ha := Aside0.mk ha
      have HB := Aside0.mk Q_HB
      have HV := Aside0.mk Q_HV
      have HP := Aside0.mk Q_HP
      have HM := Aside0.mk Q_HM
      refine value_ (w1 := w'.alloc (.cells #[.string ⟨#[]⟩, .int .i64 0, .int .i64 0, .int .i64 0, .int .i64 0] 34)) (v := .pointer (some ⟨w'.heap.size, 0, none⟩)) (by rfl) rfl ?_ ?_
      · first | (go_simp; done) | (go_simp; rfl)
      refine hK.out _ _ ⟨w'.heap.size, g7, (.pointer (some ⟨w'.heap.size, 0, none⟩)), m10_, (by rw [ha.out]; exact putSel_upk 4 hb_ rfl rfl rfl), fun h0_ => (Q_SI0 h0_).alloc _, fun h0_ h1_ => (Q_SI1 h0_ h1_).alloc _, fun h0_ => (Q_SI2 h0_).alloc _, below_alloc HB.out _, Kd.R_alloc HV.out _, Kd.R_alloc HP.out _, Nat.le_trans HM.out (alloc_le _ _), fun h0_ => ⟨Q_HM, alloc_lt _ _⟩, fun h0_ => ⟨(Q_G7 h0_).1, Nat.lt_of_lt_of_le (Q_G7 h0_).2 (alloc_le _ _)⟩, fun h0_ h1_ => Nat.ne_of_gt (Q_G7 h1_).2, fun h0_ h1_ => heap_alloc_new _ _, fun h0_ => absurd ((hoff 11 (by kernel_rfl)).symm.trans h0_) (by decide), fun h0_ h1_ => blk_alloc (Q_B7z h0_ h1_) _, fun h0_ => absurd ((hoff 12 (by kernel_rfl)).symm.trans h0_) (by decide), fun _ => rfl, Q_X10_⟩
    refine steps_cons ?_ ?_
    · rintro b a w' ⟨g6, g7, m9_, m10_, ha, Q_SI0, Q_SI1, Q_SI2, Q_HB, Q_HV, Q_HP, Q_HM, Q_G6, Q_G7, Q_N67, Q_B6z, Q_B6, Q_B7z, Q_B7, Q_X9_, Q_X10_⟩ hb_ hon hoff
      refine ⟨_, rfl, fun K hK => ?_⟩
      replace ha := Aside0.mk ha
      have HB := Aside0.mk Q_HB
      have HV := Aside0.mk Q_HV
      have HP := Aside0.mk Q_HP
      have HM := Aside0.mk Q_HM
      refine value_ (w1 := w'.alloc (.cells #[.string ⟨#[]⟩, .int .i64 0, .int .i64 0] 37)) (v := .pointer (some ⟨w'.heap.size, 0, none⟩)) (by rfl) rfl ?_ ?_
      · first | (go_simp; done) | (go_simp; rfl)
      refine hK.out _ _ ⟨g6, w'.heap.size, m9_, (.pointer (some ⟨w'.heap.size, 0, none⟩)), (by rw [ha.out]; exact putSel_upk 5 hb_ rfl rfl rfl), fun h0_ => (Q_SI0 h0_).alloc _, fun h0_ h1_ => (Q_SI1 h0_ h1_).alloc _, fun h0_ => (Q_SI2 h0_).alloc _, below_alloc HB.out _, Kd.R_alloc HV.out _, Kd.R_alloc HP.out _, Nat.le_trans HM.out (alloc_le _ _), fun h0_ => ⟨(Q_G6 h0_).1, Nat.lt_of_lt_of_le (Q_G6 h0_).2 (alloc_le _ _)⟩, fun h0_ => ⟨Q_HM, alloc_lt _ _⟩, fun h0_ h1_ => Nat.ne_of_lt (Q_G6 h0_).2, fun h0_ h1_ => blk_alloc (Q_B6z h0_ h1_) _, fun h0_ => absurd ((hoff 11 (by kernel_rfl)).symm.trans h0_) (by decide), fun h0_ h1_ => heap_alloc_new _ _, fun h0_ => absurd ((hoff 12 (by kernel_rfl)).symm.trans h0_) (by decide), Q_X9_, fun _ => rfl⟩
    refine steps_cons ?_ ?_
    · rintro b a w' ⟨g6, g7, m9_, m10_, ha, Q_SI0, Q_SI1, Q_SI2, Q_HB, Q_HV, Q_HP, Q_HM, Q_G6, Q_G7, Q_N67, Q_B6z, Q_B6, Q_B7z, Q_B7, Q_X9_, Q_X10_⟩ hb_ hon hoff
      refine ⟨_, rfl, fun K hK => ?_⟩
      have e6 : a.tmps[6]? = some (m9_) := by rw [ha]; exact putSel_on (e := (9, 6, m9_)) 4 rfl rfl (hon 9 (by kernel_rfl)) rfl
      rw [Q_X9_ (hon 9 (by kernel_rfl))] at e6
      have e40 : a.tmps[40]? = some (.agg #[.string ⟨#[118, 97]⟩, .int .i64 r2, .int .i64 r3, .int .i64 r4, .int .i64 r5]) := by rw [ha]; exact putSel_on (e := (1, 40, .agg #[.string ⟨#[118, 97]⟩, .int .i64 r2, .int .i64 r3, .int .i64 r4, .int .i64 r5])) 0 rfl rfl (hon 1 (by kernel_rfl)) rfl
      replace ha := Aside0.mk ha
      have SI2 := Aside0.mk (Q_SI2 (hon 6 (by kernel_rfl)))
      have HB := Aside0.mk Q_HB
      have HV := Aside0.mk Q_HV
      have HP := Aside0.mk Q_HP
      have HM := Aside0.mk Q_HM
      have G6 := Aside0.mk (Q_G6 (hon 9 (by kernel_rfl)))
      have G7 := Aside0.mk (Q_G7 (hon 10 (by kernel_rfl)))
      have N67 := Aside0.mk (Q_N67 (hon 9 (by kernel_rfl)) (hon 10 (by kernel_rfl)))
      have B6z := Aside0.mk (Q_B6z (hon 9 (by kernel_rfl)) hb_)
      have B7z := Aside0.mk (Q_B7z (hon 10 (by kernel_rfl)) (hoff 12 (by kernel_rfl)))
      have z0 := (blk_cell B6z.out 0)
      have z1 := (blk_cell B6z.out 1)
      have z2 := (blk_cell B6z.out 2)
      have z3 := (blk_cell B6z.out 3)
      have z4 := (blk_cell B6z.out 4)
      have zf := blk_frozen B6z.out
      simp only [List.getElem?_toArray, List.getElem?_cons_zero, List.getElem?_cons_succ] at z0 z1 z2 z3 z4
      have hz := put5 B6z.out (.string ⟨#[118, 97]⟩) (.int .i64 r2) (.int .i64 r3) (.int .i64 r4) (.int .i64 r5)
      have hgg : g ≠ g6 := Nat.ne_of_lt (Nat.lt_of_lt_of_le hgM.out G6.out.1)
      have hok : ∀ k, (k < M ∧ k ≠ g) → some k ≠ some g6 := fun k hk e => Nat.not_lt_of_le G6.out.1 (Option.some.inj e ▸ hk.1)
      have HZ := Aside0.mk hz
      clear hz hgg hok
      refine skip_ (w1 := ?_) (by rfl) rfl ?_ ?_
      rotate_left
      · go_simp
        rfl
      have hz := HZ.out
      have hgg : g ≠ g6 := Nat.ne_of_lt (Nat.lt_of_lt_of_le hgM.out G6.out.1)
      have hok : ∀ k, (k < M ∧ k ≠ g) → some k ≠ some g6 := fun k hk e => Nat.not_lt_of_le G6.out.1 (Option.some.inj e ▸ hk.1)
      refine hK.out _ _ ⟨g6, g7, m9_, m10_, (by rw [ha.out]; exact putSel_none (v := undef) rfl), fun h0_ => absurd ((hon 1 (by kernel_rfl)).symm.trans h0_) (by decide), fun _ h1_ => absurd ((hon 6 (by kernel_rfl)).symm.trans h1_) (by decide), fun _ => SI2.out.grown hz.2 (fun e => hgg (Option.some.inj e)), HB.out.grown hz.2 HB.out.size (fun k hk => Option.some.inj hk ▸ Nat.le_trans hwM.out G6.out.1), Kd.R_grown HV.out hz.2 hok, Kd.R_grown HP.out hz.2 hok, Nat.le_trans HM.out hz.2.size, fun _ => ⟨G6.out.1, Nat.lt_of_lt_of_le G6.out.2 hz.2.size⟩, fun _ => ⟨G7.out.1, Nat.lt_of_lt_of_le G7.out.2 hz.2.size⟩, fun _ _ => N67.out, fun _ h1_ => absurd ((up_self b 11).symm.trans h1_) (by decide), fun h0_ => hz.1, fun _ _ => blk_grown B7z.out hz.2 (fun e => N67.out (Option.some.inj e).symm), fun h0_ => absurd ((hoff 12 (by kernel_rfl)).symm.trans h0_) (by decide), Q_X9_, Q_X10_⟩
    refine steps_cons ?_ ?_
    · rintro b a w' ⟨g6, g7, m9_, m10_, ha, Q_SI0, Q_SI1, Q_SI2, Q_HB, Q_HV, Q_HP, Q_HM, Q_G6, Q_G7, Q_N67, Q_B6z, Q_B6, Q_B7z, Q_B7, Q_X9_, Q_X10_⟩ hb_ hon hoff
      refine ⟨_, rfl, fun K hK => ?_⟩
      have e7 : a.tmps[7]? = some (m10_) := by rw [ha]; exact putSel_on (e := (10, 7, m10_)) 5 rfl rfl (hon 10 (by kernel_rfl)) rfl
      rw [Q_X10_ (hon 10 (by kernel_rfl))] at e7
      have e47 : a.tmps[47]? = some (.agg #[.string pv.f0, .int .i64 pv.f1, .int .i64 pv.f2]) := by rw [ha]; exact putSel_on (e := (8, 47, .agg #[.string pv.f0, .int .i64 pv.f1, .int .i64 pv.f2])) 3 rfl rfl (hon 8 (by kernel_rfl)) rfl
      replace ha := Aside0.mk ha
      have SI2 := Aside0.mk (Q_SI2 (hon 6 (by kernel_rfl)))
      have HB := Aside0.mk Q_HB
      have HV := Aside0.mk Q_HV
      have HP := Aside0.mk Q_HP
      have HM := Aside0.mk Q_HM
      have G6 := Aside0.mk (Q_G6 (hon 9 (by kernel_rfl)))
      have G7 := Aside0.mk (Q_G7 (hon 10 (by kernel_rfl)))
      have N67 := Aside0.mk (Q_N67 (hon 9 (by kernel_rfl)) (hon 10 (by kernel_rfl)))
      have B6 := Aside0.mk (Q_B6 (hon 11 (by kernel_rfl)))
      have B7z := Aside0.mk (Q_B7z (hon 10 (by kernel_rfl)) hb_)
      have z0 := (blk_cell B7z.out 0)
      have z1 := (blk_cell B7z.out 1)
      have z2 := (blk_cell B7z.out 2)
      have zf := blk_frozen B7z.out
      simp only [List.getElem?_toArray, List.getElem?_cons_zero, List.getElem?_cons_succ] at z0 z1 z2
      have hz := put3 B7z.out (.string pv.f0) (.int .i64 pv.f1) (.int .i64 pv.f2)
      have hgg : g ≠ g7 := Nat.ne_of_lt (Nat.lt_of_lt_of_le hgM.out G7.out.1)
      have hok : ∀ k, (k < M ∧ k ≠ g) → some k ≠ some g7 := fun k hk e => Nat.not_lt_of_le G7.out.1 (Option.some.inj e ▸ hk.1)
      have HZ := Aside0.mk hz
      clear hz hgg hok
      refine skip_ (w1 := ?_) (by rfl) rfl ?_ ?_
      rotate_left
      · go_simp
        rfl
      have hz := HZ.out
      have hgg : g ≠ g7 := Nat.ne_of_lt (Nat.lt_of_lt_of_le hgM.out G7.out.1)
      have hok : ∀ k, (k < M ∧ k ≠ g) → some k ≠ some g7 := fun k hk e => Nat.not_lt_of_le G7.out.1 (Option.some.inj e ▸ hk.1)
      refine hK.out _ _ ⟨g6, g7, m9_, m10_, (by rw [ha.out]; exact putSel_none (v := undef) rfl), fun h0_ => absurd ((hon 1 (by kernel_rfl)).symm.trans h0_) (by decide), fun _ h1_ => absurd ((hon 6 (by kernel_rfl)).symm.trans h1_) (by decide), fun _ => SI2.out.grown hz.2 (fun e => hgg (Option.some.inj e)), HB.out.grown hz.2 HB.out.size (fun k hk => Option.some.inj hk ▸ Nat.le_trans hwM.out G7.out.1), Kd.R_grown HV.out hz.2 hok, Kd.R_grown HP.out hz.2 hok, Nat.le_trans HM.out hz.2.size, fun _ => ⟨G6.out.1, Nat.lt_of_lt_of_le G6.out.2 hz.2.size⟩, fun _ => ⟨G7.out.1, Nat.lt_of_lt_of_le G7.out.2 hz.2.size⟩, fun _ _ => N67.out, fun _ h1_ => absurd ((hon 11 (by kernel_rfl)).symm.trans h1_) (by decide), fun _ => blk_grown B6.out hz.2 (fun e => N67.out (Option.some.inj e)), fun _ h1_ => absurd ((up_self b 12).symm.trans h1_) (by decide), fun h0_ => hz.1, Q_X9_, Q_X10_⟩
    exact steps_nil
  rintro b a w' hall ⟨g6, g7, m9_, m10_, ha, Q_SI0, Q_SI1, Q_SI2, Q_HB, Q_HV, Q_HP, Q_HM, Q_G6, Q_G7, Q_N67, Q_B6z, Q_B6, Q_B7z, Q_B7, Q_X9_, Q_X10_⟩
  clear HB HM HP HV SI0
  have hb1_ := hall 1 (by kernel_rfl)
  have hb6_ := hall 6 (by kernel_rfl)
  have hb7_ := hall 7 (by kernel_rfl)
  have hb8_ := hall 8 (by kernel_rfl)
  have hb9_ := hall 9 (by kernel_rfl)
  have hb10_ := hall 10 (by kernel_rfl)
  have hb11_ := hall 11 (by kernel_rfl)
  have hb12_ := hall 12 (by kernel_rfl)
  subst ha
  obtain rfl := Q_X9_ hb9_
  obtain rfl := Q_X10_ hb10_
  simp only [putSel, hb1_, hb6_, hb7_, hb8_, hb9_, hb10_, hb11_, hb12_, if_true, Act.put, List.setIfInBounds_toArray, List.set_cons_zero, List.set_cons_succ]
  clear Q_SI0
  clear Q_SI1
  have SI2 := Aside0.mk (Q_SI2 hb6_)
  clear Q_SI2
  have HB := Aside0.mk Q_HB
  clear Q_HB
  have HV := Aside0.mk Q_HV
  clear Q_HV
  have HP := Aside0.mk Q_HP
  clear Q_HP
  have HM := Aside0.mk Q_HM
  clear Q_HM
  have G6 := Aside0.mk (Q_G6 hb9_)
  clear Q_G6
  have G7 := Aside0.mk (Q_G7 hb10_)
  clear Q_G7
  have N67 := Aside0.mk (Q_N67 hb9_ hb10_)
  clear Q_N67
  clear Q_B6z
  have B6 := Aside0.mk (Q_B6 hb11_)
  clear Q_B6
  clear Q_B7z
  have B7 := Aside0.mk (Q_B7 hb12_)
  clear Q_B7
  clear hall hb1_ hb6_ hb7_ hb8_ hb9_ hb10_ hb11_ hb12_
  obtain ⟨v0, hv0⟩ : ∃ v : S34, (⟨⟨#[118, 97]⟩, r2, r3, r4, r5⟩ : S34) = v := ⟨_, rfl⟩
  clear HT_ HW_ Q_X9_ Q_X10_
  have HLV := Aside0.mk (Nat.eq_zero_or_pos vs.length)
  obtain ⟨a4, ha4⟩ : ∃ a, a3 + 1 + 1 = a := ⟨_, rfl⟩
  obtain ⟨a5, ha5⟩ : ∃ a, a3 + 1 = a := ⟨_, rfl⟩
  have HA5 := Aside0.mk (show 0 ≤ a5 ∧ a5 ≤ 102 by have := HA.out; omega)
  have HA4 := Aside0.mk (show 0 ≤ a4 ∧ a4 ≤ 102 by have := HA.out; omega)
  have ha45 : a5 + 1 = a4 := by omega
  rw [ha5] at SI2
  have HE4 := Aside0.mk ha45
  clear ha4 ha5 ha45
  dsimp only [Exit.then]
  go_upto_if 50 with fail
  go_cut [] from 20 (fun W => ∃ (v : S34) (b4 : Int), v.f0.size ≤ 40 ∧ (0 ≤ b4 ∧ b4 ≤ 102) ∧ IsS25 w W g L b4 ∧ Below w.heap.size w W ∧ W.heap[g6]? = some (.cells #[.string v.f0, .int .i64 v.f1, .int .i64 v.f2, .int .i64 v.f3, .int .i64 v.f4] 34) ∧ W.heap[g7]? = some (.cells #[.string pv.f0, .int .i64 pv.f1, .int .i64 pv.f2] 37))
  case first =>
    rcases HLV.out with hlv | hlv
    · go_wp2_with fail
      go_meet
      case rel => exact ⟨v0, a5, hv0 ▸ (by decide : (⟨#[118, 97]⟩ : ByteArray).size ≤ 40), HA5.out, SI2.out, HB.out, hv0 ▸ B6.out, B7.out⟩
    · obtain ⟨n2, hx2, h20, h21⟩ := next_ok HL.out a5 (vs.length : Int) HA5.out.1 (by have := HA5.out; omega) (by omega) (by omega)
      rw [HE4.out] at hx2
      have HX2 := Aside0.mk hx2
      have H20 := Aside0.mk h20
      have H21 := Aside0.mk h21
      clear hx2 h20 h21 HE4 hv0
      go_wp2_with fail
      refine (jitmake_Stream_Next.calls g L a5 _ n2 a4 w w' SI2.out HB.out HX2.out).mono ?_
      rintro e w9 ⟨rfl, hI, hB, hK⟩
      have hV2 := Kd.R_keep HV.out hK (fun _ h => h.2)
      have b6 := hK.blk B6.out (Nat.ne_of_gt (Nat.lt_of_lt_of_le hgM.out G6.out.1)) (by simp)
      have b7 := hK.blk B7.out (Nat.ne_of_gt (Nat.lt_of_lt_of_le hgM.out G7.out.1)) (by simp)
      obtain ⟨ad2, e2, c0, c1, c2, c3, c4⟩ := at_T34 (Kd.R_reads' hV2).2.2 n2 H20.out H21.out
      obtain ⟨v, hv⟩ : ∃ v : S34, rd_T34 vs n2 = v := ⟨_, rfl⟩
      have HVO := Aside0.mk (show v.f0.size ≤ 40 from hv ▸ (hvo _ (rd_mem34 H20.out H21.out)).1)
      rw [hv] at c0 c1 c2 c3 c4
      cases e2
      have hz := put5 b6 (.string v.f0) (.int .i64 v.f1) (.int .i64 v.f2) (.int .i64 v.f3) (.int .i64 v.f4)
      have n0 := Aside0.mk (hI.grown hz.2 (fun e => Nat.ne_of_lt (Nat.lt_of_lt_of_le hgM.out G6.out.1) (Option.some.inj e)))
      have n1 := Aside0.mk (hB.grown hz.2 hB.size (fun k hk => Option.some.inj hk ▸ Nat.le_trans hwM.out G6.out.1))
      have n2' := Aside0.mk hz.1
      have n3 := Aside0.mk (blk_grown b7 hz.2 (fun e => N67.out (Option.some.inj e).symm))
      have z0 := blk_cell b6 0
      have z1 := blk_cell b6 1
      have z2 := blk_cell b6 2
      have z3 := blk_cell b6 3
      have z4 := blk_cell b6 4
      have zf := blk_frozen b6
      have i0 := H20.out
      have i1 := H21.out
      simp only [List.getElem?_toArray, List.getElem?_cons_zero, List.getElem?_cons_succ] at z0 z1 z2 z3 z4
      clear hz hI hB hK hV2 b6 b7 hv SI2 HB B6 B7 HV HP
      go_wp2_with fail
      go_meet
      case rel => exact ⟨v, a4, HVO.out, HA4.out, n0.out, n1.out, n2'.out, n3.out⟩
  case rest =>
  clear SI2 HB B6 B7 HV HP HE4 hv0 HA4 HA5 HM
  obtain ⟨v, b4, hvo1, ha4, hI, hB, hb6, hb7⟩ := hcut
  have HVO := Aside0.mk hvo1
  have HA4 := Aside0.mk ha4
  have SI := Aside0.mk hI
  have HB := Aside0.mk hB
  have B6 := Aside0.mk hb6
  have B7 := Aside0.mk hb7
  have n6 := Aside0.mk G6.out.1
  have n7 := Aside0.mk G7.out.1
  clear G6 G7 hvo1 ha4 hI hB hb6 hb7
  have G6 := n6
  have G7 := n7
  clear n6 n7
  obtain ⟨lv, hlv0, -⟩ := pick_ok HL.out b4 [0, 1, 5, 39, 40, 79, 80, 100, -1] HA4.out.1 (by have := HA4.out; omega) (by simp) (by simp)
  obtain ⟨wt, hwt0, -⟩ := pick_ok HL.out (b4 + 1) [0, 1, 40, 50, 80, 81, 100, 101] (by have := HA4.out; omega) (by have := HA4.out; omega) (by simp) (by simp)
  obtain ⟨lg, hlg0, -⟩ := pick_ok HL.out (b4 + 1 + 1) [0, 1, 999, 1000, 2500, 60000, 3600000, 2592000000, -1, 2592000001] (by have := HA4.out; omega) (by have := HA4.out; omega) (by simp) (by simp)
  obtain ⟨fl, hfl0⟩ := flip_ok HL.out (b4 + 1 + 1 + 1) 2 (by have := HA4.out; omega) (by have := HA4.out; omega) (by omega) (by omega)
  have HP1 := Aside0.mk hlv0
  have HP2 := Aside0.mk hwt0
  have HP3 := Aside0.mk hlg0
  have HP4 := Aside0.mk hfl0
  clear hlv0 hwt0 hlg0 hfl0
  go_wp2_with fail
  refine (jitmake_Stream_Pick.calls g L (b4) (some ⟨_, 0, none⟩) 9 [0, 1, 5, 39, 40, 79, 80, 100, -1] lv (b4 + 1) w _ (SI.out.alloc _) (below_alloc HB.out _) (lit_C (z := 0) _ 3 [0, 1, 5, 39, 40, 79, 80, 100, -1] (by simp)) (by simp) (fun ad he _ => by cases he; exact (Nat.ne_of_lt SI.out.lt).symm) HP1.out).mono ?_
  rintro e w11 ⟨rfl, hI, hB, hK⟩
  have hK2 := (keep_alloc0 _ g _).trans hK (.inl rfl)
  clear hK
  have n0 := Aside0.mk hI
  have n1 := Aside0.mk hB
  have n2 := Aside0.mk (hK2.blk B6.out (Nat.ne_of_gt (Nat.lt_of_lt_of_le hgM.out G6.out)) (by simp))
  have n3 := Aside0.mk (hK2.blk B7.out (Nat.ne_of_gt (Nat.lt_of_lt_of_le hgM.out G7.out)) (by simp))
  clear SI HB B6 B7 hI hB hK2
  have SI := n0
  have HB := n1
  have B6 := n2
  have B7 := n3
  clear n0 n1 n2 n3
  go_wp2_with fail
  refine (jitmake_Stream_Pick.calls g L (b4 + 1) (some ⟨_, 0, none⟩) 8 [0, 1, 40, 50, 80, 81, 100, 101] wt (b4 + 1 + 1) w _ (SI.out.alloc _) (below_alloc HB.out _) (lit_C (z := 0) _ 3 [0, 1, 40, 50, 80, 81, 100, 101] (by simp)) (by simp) (fun ad he _ => by cases he; exact (Nat.ne_of_lt SI.out.lt).symm) HP2.out).mono ?_
  rintro e w12 ⟨rfl, hI, hB, hK⟩
  have hK2 := (keep_alloc0 _ g _).trans hK (.inl rfl)
  clear hK
  have n0 := Aside0.mk hI
  have n1 := Aside0.mk hB
  have n2 := Aside0.mk (hK2.blk B6.out (Nat.ne_of_gt (Nat.lt_of_lt_of_le hgM.out G6.out)) (by simp))
  have n3 := Aside0.mk (hK2.blk B7.out (Nat.ne_of_gt (Nat.lt_of_lt_of_le hgM.out G7.out)) (by simp))
  clear SI HB B6 B7 hI hB hK2
  have SI := n0
  have HB := n1
  have B6 := n2
  have B7 := n3
  clear n0 n1 n2 n3
  go_wp2_with fail
  refine (jitmake_Stream_Pick.calls g L (b4 + 1 + 1) (some ⟨_, 0, none⟩) 10 [0, 1, 999, 1000, 2500, 60000, 3600000, 2592000000, -1, 2592000001] lg (b4 + 1 + 1 + 1) w _ (SI.out.alloc _) (below_alloc HB.out _) (lit_C (z := 0) _ 3 [0, 1, 999, 1000, 2500, 60000, 3600000, 2592000000, -1, 2592000001] (by simp)) (by simp) (fun ad he _ => by cases he; exact (Nat.ne_of_lt SI.out.lt).symm) HP3.out).mono ?_
  rintro e w13 ⟨rfl, hI, hB, hK⟩
  have hK2 := (keep_alloc0 _ g _).trans hK (.inl rfl)
  clear hK
  have n0 := Aside0.mk hI
  have n1 := Aside0.mk hB
  have n2 := Aside0.mk (hK2.blk B6.out (Nat.ne_of_gt (Nat.lt_of_lt_of_le hgM.out G6.out)) (by simp))
  have n3 := Aside0.mk (hK2.blk B7.out (Nat.ne_of_gt (Nat.lt_of_lt_of_le hgM.out G7.out)) (by simp))
  clear SI HB B6 B7 hI hB hK2
  have SI := n0
  have HB := n1
  have B6 := n2
  have B7 := n3
  clear n0 n1 n2 n3
  go_wp2_with fail
  refine (jitmake_Stream_Flip.calls g L (b4 + 1 + 1 + 1) 2 fl (b4 + 1 + 1 + 1 + 1) w _ SI.out HB.out HP4.out).mono ?_
  rintro e w14 ⟨rfl, hI, hB, hK2⟩
  have n0 := Aside0.mk hI
  have n1 := Aside0.mk hB
  have n2 := Aside0.mk (hK2.blk B6.out (Nat.ne_of_gt (Nat.lt_of_lt_of_le hgM.out G6.out)) (by simp))
  have n3 := Aside0.mk (hK2.blk B7.out (Nat.ne_of_gt (Nat.lt_of_lt_of_le hgM.out G7.out)) (by simp))
  clear SI HB B6 B7 hI hB hK2
  have SI := n0
  have HB := n1
  have B6 := n2
  have B7 := n3
  clear n0 n1 n2 n3
  clear SI
  go_upto_if 68 with fail
  go_cut [8] from 20 (fun s8 W => ∃ lv2, s8 = .int .i64 lv2 ∧ Below w.heap.size w W ∧ W.heap[g6]? = some (.cells #[.string v.f0, .int .i64 v.f1, .int .i64 v.f2, .int .i64 v.f3, .int .i64 v.f4] 34) ∧ W.heap[g7]? = some (.cells #[.string pv.f0, .int .i64 pv.f1, .int .i64 pv.f2] 37))
  case first =>
    cases fl
    · go_wp2_with fail
      go_meet
      case rel => exact ⟨lv, rfl, HB.out, B6.out, B7.out⟩
    · have z1 := blk_cell B6.out 1
      simp only [List.getElem?_toArray, List.getElem?_cons_zero, List.getElem?_cons_succ] at z1
      go_wp2_with fail
      all_goals
        go_meet
        case rel => exact ⟨_, rfl, HB.out, B6.out, B7.out⟩
  case rest =>
  rename_i K0 hK0
  obtain ⟨lv2, rfl, hB, hb6, hb7⟩ := hcut
  refine hK0 _ _ ?_
  exact part11 w _ g6 g7 v pv lv2 wt lg ⟨hB⟩ ⟨hb6⟩ ⟨hb7⟩ HVO ⟨hpo1.1⟩
end Go.Proofs.Ytfphebbfgphldaa.PBatteriesGain

