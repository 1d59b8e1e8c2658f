import Derived.Test.YtfphebbfgphldaaB1PBatteriesGainq3c
namespace Go.Proofs.Ytfphebbfgphldaa.PBatteriesGain
open Go.RowKit Go.Proofs.YtfphebbfgphldaaW.PrintWords Go.Proofs.YtfphebbfgphldaaW.PrintLast Go.Proofs.YtfphebbfgphldaaW.PrintMore Go.Proofs.Ytfphebbfgphldaa.MLib 
attribute [local go_sem] max2_int min2_int max_two min_two 
set_option linter.unusedVariables false
set_option linter.unusedSimpArgs false
def batt.T13 : Bool × List (List Nat × List Nat) := (true, [([], []), ([0], [0]), ([1], [1]), ([], []), ([3], [3]), ([4, 2], [4]), ([], []), ([6], [6]), ([7, 5], [7]), ([8], [8]), ([8], [8]), ([10, 8], [8, 10]), ([9, 11, 8], [8, 9, 11]), ([8, 12], [8, 12]), ([13, 8], [13]), ([2, 5, 14], [2, 5, 14]), ([15, 14], [15]), ([16, 16, 0, 1, 2, 3, 4, 5, 6, 7, 8, 9, 10, 11, 12, 13, 14, 15, 16], [16])])
def batt.B13 : List Nat := [0, 1, 3, 0, 8, 31, 0, 64, 255, 511, 511, 1535, 4095, 8191, 16383, 32767, 65535, 131071]
theorem batt.tab13 : rtab .any (opsOf Try.f3 13) = batt.T13 := by kernel_rfl
theorem batt.bits13 : waitsOk batt.T13.2 batt.B13 = true := by kernel_rfl
noncomputable def tail11 : Code := (Try.f3.body.bind (fromReg 11)).getD .skip
set_option maxHeartbeats 8000000 in
set_option maxRecDepth 100000 in
theorem part11 {u0 u1 u2 u3 u4 u5 u11 u12 u13 u14 u15 u16 u17 u18 u19 u20 u21 u22 u23 u24 u25 u26 u27 u28 u29 u30 u31 u32 u33 u34 u35 u36 u37 u38 u39 u40 u41 u42 u43 u44 u45 u46 u47 u48 u49 u50 u51 u52 u53 u54 u55 u56 u57 u58 u59 u60 u61 u62 u63 u64 u65 u66 u67 u68 u69 u70 u71 u72 u73 u74 u75 u76 u77 u78 u79 u80 u81 u82 u83 u84 u85 u86 u87 u88 u89 u90 u91 u92 u93 u94 u95 u96 u97 u98 u99 u100 u101 u102 u103 u104 u105 u106 u107 u108 u109 u110 u111 u112 u113 u114 u115 u116 u117 u118 u119 u120 u121 u122 u123 u124 u125 u126 u127 u128 u129 u130 u131 u132 u133 u134 u135 u136 u137 u138 u139 u140 u141 u142 u143 u144 u145 u146 u147 u148 u149 u150 u151 u152 u153 u154 u155 u156 u157 u158 u159 u160 u161 u162 u163 u164 : Value} (w W : World) (g6 g7 : Nat) (v : S34) (pv : S37) (lv wt lg : Int) (HB : Aside0 (Below w.heap.size w W)) (B6 : Aside0 (W.heap[g6]? = some (.cells #[.string v.f0, .int .i64 v.f1, .int .i64 v.f2, .int .i64 v.f3, .int .i64 v.f4] 34))) (B7 : Aside0 (W.heap[g7]? = some (.cells #[.string pv.f0, .int .i64 pv.f1, .int .i64 pv.f2] 37))) (HVO : Aside0 (v.f0.size ≤ 40)) (HPO : Aside0 (pv.f0.size ≤ 40)) :
    Code.wp Try.prog tail11 (bodyPost Try.prog Try.f3 fun e w' => e = .returned (.bool true) ∧ Below w.heap.size w w') ⟨#[u0, u1, u2, u3, u4, u5, .pointer (some ⟨g6, 0, none⟩), .pointer (some ⟨g7, 0, none⟩), .int .i64 lv, .int .i64 wt, .int .i64 lg, u11, u12, u13, u14, u15, u16, u17, u18, u19, u20, u21, u22, u23, u24, u25, u26, u27, u28, u29, u30, u31, u32, u33, u34, u35, u36, u37, u38, u39, u40, u41, u42, u43, u44, u45, u46, u47, u48, u49, u50, u51, u52, u53, u54, u55, u56, u57, u58, u59, u60, u61, u62, u63, u64, u65, u66, u67, u68, u69, u70, u71, u72, u73, u74, u75, u76, u77, u78, u79, u80, u81, u82, u83, u84, u85, u86, u87, u88, u89, u90, u91, u92, u93, u94, u95, u96, u97, u98, u99, u100, u101, u102, u103, u104, u105, u106, u107, u108, u109, u110, u111, u112, u113, u114, u115, u116, u117, u118, u119, u120, u121, u122, u123, u124, u125, u126, u127, u128, u129, u130, u131, u132, u133, u134, u135, u136, u137, u138, u139, u140, u141, u142, u143, u144, u145, u146, u147, u148, u149, u150, u151, u152, u153, u154, u155, u156, u157, u158, u159, u160, u161, u162, u163, u164], []⟩ W := by
  conv => arg 2; whnf
  dsimp only
  obtain ⟨ng, eg, hga, hgb, hgc, hgd⟩ := gain_law v pv HVO.out HPO.out lv lg
  obtain ⟨nn, en, hna, hnb, hnc, hnd⟩ := needs_law v pv HVO.out HPO.out lv wt
  have HGA := Aside0.mk hga
  have HGB := Aside0.mk hgb
  have HGC := Aside0.mk hgc
  have HGD := Aside0.mk hgd
  have HNA := Aside0.mk hna
  have HNB := Aside0.mk hnb
  have HNC := Aside0.mk hnc
  have HND := Aside0.mk hnd
  clear hga hgb hgc hgd hna hnb hnc hnd
  have z0 := blk_cell B6.out 0
  have z1 := blk_cell B6.out 1
  have z2 := blk_cell B6.out 2
  have z3 := blk_cell B6.out 3
  have z4 := blk_cell B6.out 4
  have y0 := blk_cell B7.out 0
  have y1 := blk_cell B7.out 1
  have y2 := blk_cell B7.out 2
  simp only [List.getElem?_toArray, List.getElem?_cons_zero, List.getElem?_cons_succ] at z0 z1 z2 z3 z4 y0 y1 y2
  go_wp2_with fail
  refine (fleet_Gain.calls 500 _ _ _ _ _ _ _ _ _ _ ng eg _ HGA.out).mono ?_
  rintro e w15 ⟨rfl, hb⟩
  clear z0 z1 z2 z3 z4 y0 y1 y2
  have n0 := Aside0.mk (below_step HB.out hb)
  have n1 := Aside0.mk (blk_below B6.out hb)
  have n2 := Aside0.mk (blk_below B7.out hb)
  clear HB B6 B7 hb
  have HB := n0
  have B6 := n1
  have B7 := n2
  clear n0 n1 n2
  have z0 := blk_cell B6.out 0
  have z1 := blk_cell B6.out 1
  have z2 := blk_cell B6.out 2
  have z3 := blk_cell B6.out 3
  have z4 := blk_cell B6.out 4
  have y0 := blk_cell B7.out 0
  have y1 := blk_cell B7.out 1
  have y2 := blk_cell B7.out 2
  simp only [List.getElem?_toArray, List.getElem?_cons_zero, List.getElem?_cons_succ] at z0 z1 z2 z3 z4 y0 y1 y2
  go_wp2_with fail
  refine (fleet_Needs.calls 500 _ _ _ _ _ _ _ _ _ _ nn en _ HNA.out).mono ?_
  rintro e w16 ⟨rfl, hb⟩
  clear z0 z1 z2 z3 z4 y0 y1 y2
  have n0 := Aside0.mk (below_step HB.out hb)
  have n1 := Aside0.mk (blk_below B6.out hb)
  have n2 := Aside0.mk (blk_below B7.out hb)
  clear HB B6 B7 hb
  have HB := n0
  have B6 := n1
  have B7 := n2
  clear n0 n1 n2
  go_wp2_with fail
  obtain ⟨q1, hq1⟩ : ∃ q, vspec ⟨#[]⟩ [v] = q := ⟨_, rfl⟩
  obtain ⟨q2, hq2⟩ : ∃ q, pspec ⟨#[]⟩ [pv] = q := ⟨_, rfl⟩
  obtain ⟨q3, hq3⟩ : ∃ q : Int, (if outB lv 0 v.f1 = true then 1 else 0) = q := ⟨_, rfl⟩
  obtain ⟨q4, hq4⟩ : ∃ q : Int, gfault v pv lv = q := ⟨_, rfl⟩
  have hq4' : fst2 q1 (fst2 q2 q3) = q4 := by rw [← hq4, ← hq1, ← hq2, ← hq3]; rfl
  have n1 := Aside0.mk (hq1 ▸ vehiclesFault_ok [v] (by simpa using HVO.out) (by simp) : jitref2_VehiclesFault.f 500 [v] = some q1)
  have n2 := Aside0.mk (hq2 ▸ placesFault_ok [pv] (by simpa using HPO.out) (by simp) : jitref2_PlacesFault.f 500 [pv] = some q2)
  have n4 := Aside0.mk (hq4' ▸ errs3_ok q1 q2 q3 : jitlaw2_errs.f 500 [q1, q2, q3] = some q4)
  have n3 := Aside0.mk hq3
  rw [hq4] at HGB HNB
  obtain ⟨q5, hq5⟩ : ∃ q : Int, (if outB lg 0 2592000000 = true then 1 else 0) = q := ⟨_, rfl⟩
  obtain ⟨q6, hq6⟩ : ∃ q : Int, (if outB wt 0 v.f1 = true then 1 else 0) = q := ⟨_, rfl⟩
  rw [hq5] at HGB
  rw [hq6] at HNB
  have HE1 := Aside0.mk ((errs2_ok q4 q5).trans (congrArg some HGB.out.symm))
  have HE2 := Aside0.mk ((errs2_ok q4 q6).trans (congrArg some HNB.out.symm))
  have HQ5 := Aside0.mk hq5
  have HQ6 := Aside0.mk hq6
  clear hq1 hq2 hq3 hq4 hq4' hq5 hq6 HGB HNB
  have hq1 := n1
  have hq2 := n2
  have HQ3 := n3
  have hq4 := n4
  clear n1 n2 n3 n4
  go_cut [15] from 20 (fun s15 W => s15 = .int .i64 q4 ∧ Below w.heap.size w W ∧ W.heap[g6]? = some (.cells #[.string v.f0, .int .i64 v.f1, .int .i64 v.f2, .int .i64 v.f3, .int .i64 v.f4] 34) ∧ W.heap[g7]? = some (.cells #[.string pv.f0, .int .i64 pv.f1, .int .i64 pv.f2] 37))
  case first =>
    by_cases hlo : lv < 0
    · have hq3 := Aside0.mk ((when_ok true 1).trans (congrArg some (show (if true = true then (1 : Int) else 0) = q3 from by rw [← HQ3.out, out_lt hlo])))
      have hlv := Aside0.mk hlo
      clear hlo HQ3
      refine start_ (n := 18) (S := fun w' => True) (ds := []) #[false, false, false, false, false, false, false, false, false, false, false, false, false, false, false, false, false, false] (by kernel_rfl) rfl rfl trivial (fun hHeld => ?_)
      refine with_tabW batt.tab13 batt.bits13 (fun HT_ HW_ => ?_)
      have n0 := Aside0.mk (below_drew1 HB.out)
      have n1 := Aside0.mk (blk_drew B6.out)
      have n2 := Aside0.mk (blk_drew B7.out)
      clear HB B6 B7 hHeld
      generalize World.drew _ = w8 at n0 n1 n2 ⊢
      have HB := n0
      have B6 := n1
      have B7 := n2
      clear n0 n1 n2
      refine pure_ (i := 6) (N := some 97) (v := ?_) (a' := ?_) #[false, false, false, false, false, false, true, false, false, false, false, false, false, false, false, false, false, false] rfl rfl (any_of HT_.out (by kernel_rfl)) (fun _ _ _ h => h) (Or.inl ⟨by rfl, ?_⟩) ?_ ?_
      rotate_left
      · intro w'
        go_simp
        with_reducible rfl
      rotate_left
      · simp only [Act.put, List.setIfInBounds_toArray, List.set_cons_zero, List.set_cons_succ, i64_w, i32_w]
        rfl
      refine inv_at [0, 1, 2, 3, 4, 5, 7, 8, 9, 10, 11, 12, 13, 14, 15, 16, 17] (fun a0_ b a w' => ∃ (b1 : Nat) (b4 : Nat) (b15 : Nat) (m1_ : Value) (m4_ : Value) (m15_ : Value), a = putSel a0_ b [(0, 91, .agg #[.string v.f0, .int .i64 v.f1, .int .i64 v.f2, .int .i64 v.f3, .int .i64 v.f4]), (1, 92, m1_), (2, 93, .int .i64 q1), (3, 94, .agg #[.string pv.f0, .int .i64 pv.f1, .int .i64 pv.f2]), (4, 95, m4_), (5, 96, .int .i64 q2), (7, 98, .bool true), (8, 99, .bool true), (9, 100, undef), (10, 101, undef), (11, 102, undef), (12, 103, undef), (13, 104, .bool true), (14, 105, .int .i64 q3), (15, 106, m15_), (16, 107, .int .i64 q4), (17, 15, .int .i64 q4)] ∧ (Below w.heap.size w w') ∧ (w'.heap[g6]? = some (.cells #[.string v.f0, .int .i64 v.f1, .int .i64 v.f2, .int .i64 v.f3, .int .i64 v.f4] 34)) ∧ (w'.heap[g7]? = some (.cells #[.string pv.f0, .int .i64 pv.f1, .int .i64 pv.f2] 37)) ∧ (b 1 = true → w'.heap[b1]? = some (.cells #[.string v.f0, .int .i64 v.f1, .int .i64 v.f2, .int .i64 v.f3, .int .i64 v.f4] 34)) ∧ (b 4 = true → w'.heap[b4]? = some (.cells #[.string pv.f0, .int .i64 pv.f1, .int .i64 pv.f2] 37)) ∧ (b 15 = true → w'.heap[b15]? = some (.cells #[.int .i64 q1, .int .i64 q2, .int .i64 q3] 30)) ∧ (b 1 = true → (m1_ : Value) = .slice (some ⟨b1, 0, none⟩) 1 1) ∧ (b 4 = true → (m4_ : Value) = .slice (some ⟨b4, 0, none⟩) 1 1) ∧ (b 15 = true → (m15_ : Value) = .slice (some ⟨b15, 0, none⟩) 3 3)) HT_.out HW_.out (by kernel_rfl) (by kernel_rfl) ?_ ?_ ?_
      · exact ⟨0, 0, 0, .bool false, .bool false, .bool false, by simp only [putSel, Bool.false_eq_true, if_false], HB.out, B6.out, B7.out, fun h_ => absurd h_ (by decide), fun h_ => absurd h_ (by decide), fun h_ => absurd h_ (by decide), fun h_ => absurd h_ (by decide), fun h_ => absurd h_ (by decide), fun h_ => absurd h_ (by decide)⟩
      · skip
        clear B6 B7 HB
        refine steps_cons ?_ ?_
        · rintro b a w' ⟨b1, b4, b15, m1_, m4_, m15_, ha, Q_HB, Q_B6, Q_B7, Q_C1, Q_C4, Q_C15, Q_X1_, Q_X4_, Q_X15_⟩ hb_ hon hoff
          refine ⟨_, rfl, fun K hK => ?_⟩
          have e6 : a.tmps[6]? = some (.pointer (some ⟨g6, 0, none⟩)) := by rw [ha]; exact (putSel_off rfl).trans rfl
          replace ha := Aside0.mk ha
          have HB := Aside0.mk Q_HB
          have B6 := Aside0.mk Q_B6
          have B7 := Aside0.mk Q_B7
          have z0 := blk_cell B6.out 0
          have z1 := blk_cell B6.out 1
          have z2 := blk_cell B6.out 2
          have z3 := blk_cell B6.out 3
          have z4 := blk_cell B6.out 4
          simp only [List.getElem?_toArray, List.getElem?_cons_zero, List.getElem?_cons_succ] at z0 z1 z2 z3 z4
          refine value_ (w1 := w') (v := .agg #[.string v.f0, .int .i64 v.f1, .int .i64 v.f2, .int .i64 v.f3, .int .i64 v.f4]) (by rfl) rfl ?_ ?_
          · go_simp
            (try simp only [i64_w])
            try rfl
          refine hK.out _ _ ⟨b1, b4, b15, m1_, m4_, m15_, (by rw [ha.out]; exact putSel_upk 0 hb_ rfl rfl rfl), Q_HB, Q_B6, Q_B7, fun h0_ => absurd ((hoff 1 (by kernel_rfl)).symm.trans h0_) (by decide), Q_C4, fun h0_ => absurd ((hoff 15 (by kernel_rfl)).symm.trans h0_) (by decide), fun h0_ => absurd ((hoff 1 (by kernel_rfl)).symm.trans h0_) (by decide), Q_X4_, fun h0_ => absurd ((hoff 15 (by kernel_rfl)).symm.trans h0_) (by decide)⟩
        refine steps_cons ?_ ?_
        · rintro b a w' ⟨b1, b4, b15, m1_, m4_, m15_, ha, Q_HB, Q_B6, Q_B7, Q_C1, Q_C4, Q_C15, Q_X1_, Q_X4_, Q_X15_⟩ hb_ hon hoff
          refine ⟨_, rfl, fun K hK => ?_⟩
          have e91 : a.tmps[91]? = some (.agg #[.string v.f0, .int .i64 v.f1, .int .i64 v.f2, .int .i64 v.f3, .int .i64 v.f4]) := by rw [ha]; exact putSel_on (e := (0, 91, .agg #[.string v.f0, .int .i64 v.f1, .int .i64 v.f2, .int .i64 v.f3, .int .i64 v.f4])) 0 rfl rfl (hon 0 (by kernel_rfl)) rfl
          replace ha := Aside0.mk ha
          have HB := Aside0.mk Q_HB
          have B6 := Aside0.mk Q_B6
          have B7 := Aside0.mk Q_B7
          refine value_ (w1 := w'.alloc (.cells #[.string v.f0, .int .i64 v.f1, .int .i64 v.f2, .int .i64 v.f3, .int .i64 v.f4] 34)) (v := .slice (some ⟨w'.heap.size, 0, none⟩) 1 1) (by rfl) rfl ?_ ?_
          · first | (go_simp; done) | (go_simp; rfl)
          refine hK.out _ _ ⟨w'.heap.size, b4, b15, (.slice (some ⟨w'.heap.size, 0, none⟩) 1 1), m4_, m15_, (by rw [ha.out]; exact putSel_upk 1 hb_ rfl rfl rfl), below_alloc HB.out _, blk_alloc B6.out _, blk_alloc B7.out _, fun h0_ => heap_alloc_new _ _, fun h0_ => blk_alloc (Q_C4 h0_) _, fun h0_ => absurd ((hoff 15 (by kernel_rfl)).symm.trans h0_) (by decide), fun _ => rfl, Q_X4_, fun h0_ => absurd ((hoff 15 (by kernel_rfl)).symm.trans h0_) (by decide)⟩
        refine steps_cons ?_ ?_
        · rintro b a w' ⟨b1, b4, b15, m1_, m4_, m15_, ha, Q_HB, Q_B6, Q_B7, Q_C1, Q_C4, Q_C15, Q_X1_, Q_X4_, Q_X15_⟩ hb_ hon hoff
          refine ⟨_, rfl, fun K hK => ?_⟩
          have e92 : a.tmps[92]? = some (m1_) := by rw [ha]; exact putSel_on (e := (1, 92, m1_)) 1 rfl rfl (hon 1 (by kernel_rfl)) rfl
          rw [Q_X1_ (hon 1 (by kernel_rfl))] at e92
          replace ha := Aside0.mk ha
          have HB := Aside0.mk Q_HB
          have B6 := Aside0.mk Q_B6
          have B7 := Aside0.mk Q_B7
          have C1 := Aside0.mk (Q_C1 (hon 1 (by kernel_rfl)))
          refine goes_ Try.func12 (by kernel_rfl) rfl #[.slice (some ⟨b1, 0, none⟩) 1 1] (by rfl) rfl rfl (by first | (simp only [List.map_toArray, List.map_cons, List.map_nil, Act.eval, Array.getD_eq_getD_getElem?, Option.getD_some, e92]; done) | (simp only [List.map_toArray, List.map_cons, List.map_nil, Act.eval, Array.getD_eq_getD_getElem?, Option.getD_some, e92]; rfl)) ?_
          refine (jitref2_VehiclesFault.calls 500 _ 1 [v] q1 w' (row1 v C1.out (k34_mk _ _)) (Nat.le_refl _) hq1.out).mono ?_
          rintro e w9 ⟨rfl, hb⟩
          refine ⟨_, rfl, ?_⟩
          refine hK.out _ _ ⟨b1, b4, b15, m1_, m4_, m15_, (by rw [ha.out]; exact putSel_upk 2 hb_ rfl rfl rfl), below_step HB.out hb, blk_below B6.out hb, blk_below B7.out hb, fun _ => blk_below C1.out hb, fun h0_ => blk_below (Q_C4 h0_) hb, fun h0_ => absurd ((hoff 15 (by kernel_rfl)).symm.trans h0_) (by decide), Q_X1_, Q_X4_, fun h0_ => absurd ((hoff 15 (by kernel_rfl)).symm.trans h0_) (by decide)⟩
        refine steps_cons ?_ ?_
        · rintro b a w' ⟨b1, b4, b15, m1_, m4_, m15_, ha, Q_HB, Q_B6, Q_B7, Q_C1, Q_C4, Q_C15, Q_X1_, Q_X4_, Q_X15_⟩ hb_ hon hoff
          refine ⟨_, rfl, fun K hK => ?_⟩
          have e7 : a.tmps[7]? = some (.pointer (some ⟨g7, 0, none⟩)) := by rw [ha]; exact (putSel_off rfl).trans rfl
          replace ha := Aside0.mk ha
          have HB := Aside0.mk Q_HB
          have B6 := Aside0.mk Q_B6
          have B7 := Aside0.mk Q_B7
          have z0 := blk_cell B7.out 0
          have z1 := blk_cell B7.out 1
          have z2 := blk_cell B7.out 2
          simp only [List.getElem?_toArray, List.getElem?_cons_zero, List.getElem?_cons_succ] at z0 z1 z2
          refine value_ (w1 := w') (v := .agg #[.string pv.f0, .int .i64 pv.f1, .int .i64 pv.f2]) (by rfl) rfl ?_ ?_
          · go_simp
            (try simp only [i64_w])
            try rfl
          refine hK.out _ _ ⟨b1, b4, b15, m1_, m4_, m15_, (by rw [ha.out]; exact putSel_upk 3 hb_ rfl rfl rfl), Q_HB, Q_B6, Q_B7, Q_C1, fun h0_ => absurd ((hoff 4 (by kernel_rfl)).symm.trans h0_) (by decide), fun h0_ => absurd ((hoff 15 (by kernel_rfl)).symm.trans h0_) (by decide), Q_X1_, fun h0_ => absurd ((hoff 4 (by kernel_rfl)).symm.trans h0_) (by decide), fun h0_ => absurd ((hoff 15 (by kernel_rfl)).symm.trans h0_) (by decide)⟩
        refine steps_cons ?_ ?_
        · rintro b a w' ⟨b1, b4, b15, m1_, m4_, m15_, ha, Q_HB, Q_B6, Q_B7, Q_C1, Q_C4, Q_C15, Q_X1_, Q_X4_, Q_X15_⟩ hb_ hon hoff
          refine ⟨_, rfl, fun K hK => ?_⟩
          have e94 : a.tmps[94]? = some (.agg #[.string pv.f0, .int .i64 pv.f1, .int .i64 pv.f2]) := by rw [ha]; exact putSel_on (e := (3, 94, .agg #[.string pv.f0, .int .i64 pv.f1, .int .i64 pv.f2])) 3 rfl rfl (hon 3 (by kernel_rfl)) rfl
          replace ha := Aside0.mk ha
          have HB := Aside0.mk Q_HB
          have B6 := Aside0.mk Q_B6
          have B7 := Aside0.mk Q_B7
          refine value_ (w1 := w'.alloc (.cells #[.string pv.f0, .int .i64 pv.f1, .int .i64 pv.f2] 37)) (v := .slice (some ⟨w'.heap.size, 0, none⟩) 1 1) (by rfl) rfl ?_ ?_
          · first | (go_simp; done) | (go_simp; rfl)
          refine hK.out _ _ ⟨b1, w'.heap.size, b15, m1_, (.slice (some ⟨w'.heap.size, 0, none⟩) 1 1), m15_, (by rw [ha.out]; exact putSel_upk 4 hb_ rfl rfl rfl), below_alloc HB.out _, blk_alloc B6.out _, blk_alloc B7.out _, fun h0_ => blk_alloc (Q_C1 h0_) _, fun h0_ => heap_alloc_new _ _, fun h0_ => absurd ((hoff 15 (by kernel_rfl)).symm.trans h0_) (by decide), Q_X1_, fun _ => rfl, fun h0_ => absurd ((hoff 15 (by kernel_rfl)).symm.trans h0_) (by decide)⟩
        refine steps_cons ?_ ?_
        · rintro b a w' ⟨b1, b4, b15, m1_, m4_, m15_, ha, Q_HB, Q_B6, Q_B7, Q_C1, Q_C4, Q_C15, Q_X1_, Q_X4_, Q_X15_⟩ hb_ hon hoff
          refine ⟨_, rfl, fun K hK => ?_⟩
          have e95 : a.tmps[95]? = some (m4_) := by rw [ha]; exact putSel_on (e := (4, 95, m4_)) 4 rfl rfl (hon 4 (by kernel_rfl)) rfl
          rw [Q_X4_ (hon 4 (by kernel_rfl))] at e95
          replace ha := Aside0.mk ha
          have HB := Aside0.mk Q_HB
          have B6 := Aside0.mk Q_B6
          have B7 := Aside0.mk Q_B7
          have C1 := Aside0.mk (Q_C1 (hon 1 (by kernel_rfl)))
          have C4 := Aside0.mk (Q_C4 (hon 4 (by kernel_rfl)))
          refine goes_ Try.func14 (by kernel_rfl) rfl #[.slice (some ⟨b4, 0, none⟩) 1 1] (by rfl) rfl rfl (by first | (simp only [List.map_toArray, List.map_cons, List.map_nil, Act.eval, Array.getD_eq_getD_getElem?, Option.getD_some, e95]; done) | (simp only [List.map_toArray, List.map_cons, List.map_nil, Act.eval, Array.getD_eq_getD_getElem?, Option.getD_some, e95]; rfl)) ?_
          refine (jitref2_PlacesFault.calls 500 _ 1 [pv] q2 w' (row1 pv C4.out (k37_mk _ _)) (Nat.le_refl _) hq2.out).mono ?_
          rintro e w9 ⟨rfl, hb⟩
          refine ⟨_, rfl, ?_⟩
          refine hK.out _ _ ⟨b1, b4, b15, m1_, m4_, m15_, (by rw [ha.out]; exact putSel_upk 5 hb_ rfl rfl rfl), below_step HB.out hb, blk_below B6.out hb, blk_below B7.out hb, fun _ => blk_below C1.out hb, fun _ => blk_below C4.out hb, fun h0_ => absurd ((hoff 15 (by kernel_rfl)).symm.trans h0_) (by decide), Q_X1_, Q_X4_, fun h0_ => absurd ((hoff 15 (by kernel_rfl)).symm.trans h0_) (by decide)⟩
        refine steps_cons ?_ ?_
        · rintro b a w' ⟨b1, b4, b15, m1_, m4_, m15_, ha, Q_HB, Q_B6, Q_B7, Q_C1, Q_C4, Q_C15, Q_X1_, Q_X4_, Q_X15_⟩ hb_ hon hoff
          refine ⟨_, rfl, fun K hK => ?_⟩
          have e97 : a.tmps[97]? = some (.int .i64 lv) := by rw [ha]; exact (putSel_off rfl).trans rfl
          replace ha := Aside0.mk ha
          have HB := Aside0.mk Q_HB
          have B6 := Aside0.mk Q_B6
          have B7 := Aside0.mk Q_B7
          have hlo := hlv.out
          refine value_ (w1 := w') (v := .bool true) (by rfl) rfl ?_ ?_
          · go_simp
            (try simp only [i64_w])
            try rfl
          refine hK.out _ _ ⟨b1, b4, b15, m1_, m4_, m15_, (by rw [ha.out]; exact putSel_upk 6 hb_ rfl rfl rfl), Q_HB, Q_B6, Q_B7, Q_C1, Q_C4, fun h0_ => absurd ((hoff 15 (by kernel_rfl)).symm.trans h0_) (by decide), Q_X1_, Q_X4_, fun h0_ => absurd ((hoff 15 (by kernel_rfl)).symm.trans h0_) (by decide)⟩
        refine steps_cons ?_ ?_
        · rintro b a w' ⟨b1, b4, b15, m1_, m4_, m15_, ha, Q_HB, Q_B6, Q_B7, Q_C1, Q_C4, Q_C15, Q_X1_, Q_X4_, Q_X15_⟩ hb_ hon hoff
          refine ⟨_, rfl, fun K hK => ?_⟩
          have e98 : a.tmps[98]? = some (.bool true) := by rw [ha]; exact putSel_on (e := (7, 98, .bool true)) 6 rfl rfl (hon 7 (by kernel_rfl)) rfl
          replace ha := Aside0.mk ha
          have HB := Aside0.mk Q_HB
          have B6 := Aside0.mk Q_B6
          have B7 := Aside0.mk Q_B7
          have C1 := Aside0.mk (Q_C1 (hon 1 (by kernel_rfl)))
          have C4 := Aside0.mk (Q_C4 (hon 4 (by kernel_rfl)))
          have hlo := hlv.out
          refine value_ (w1 := w') (v := .bool true) (by rfl) rfl ?_ ?_
          · go_simp
            (try simp only [i64_w])
            try rfl
          refine hK.out _ _ ⟨b1, b4, b15, m1_, m4_, m15_, (by rw [ha.out]; exact putSel_upk 7 hb_ rfl rfl rfl), Q_HB, Q_B6, Q_B7, Q_C1, Q_C4, fun h0_ => absurd ((hoff 15 (by kernel_rfl)).symm.trans h0_) (by decide), Q_X1_, Q_X4_, fun h0_ => absurd ((hoff 15 (by kernel_rfl)).symm.trans h0_) (by decide)⟩
        refine steps_cons ?_ ?_
        · rintro b a w' ⟨b1, b4, b15, m1_, m4_, m15_, ha, Q_HB, Q_B6, Q_B7, Q_C1, Q_C4, Q_C15, Q_X1_, Q_X4_, Q_X15_⟩ hb_ hon hoff
          refine ⟨_, rfl, fun K hK => ?_⟩
          have e99 : a.tmps[99]? = some (.bool true) := by rw [ha]; exact putSel_on (e := (8, 99, .bool true)) 7 rfl rfl (hon 8 (by kernel_rfl)) rfl
          replace ha := Aside0.mk ha
          have HB := Aside0.mk Q_HB
          have B6 := Aside0.mk Q_B6
          have B7 := Aside0.mk Q_B7
          have C1 := Aside0.mk (Q_C1 (hon 1 (by kernel_rfl)))
          have C4 := Aside0.mk (Q_C4 (hon 4 (by kernel_rfl)))
          refine off_ (wanted_off rfl rfl rfl (e99.trans (by first | rfl | (simp [*]; done)))) ?_
          refine hK.out _ _ ⟨b1, b4, b15, m1_, m4_, m15_, (by rw [ha.out]; exact putSel_upk 8 hb_ rfl rfl rfl), Q_HB, Q_B6, Q_B7, Q_C1, Q_C4, fun h0_ => absurd ((hoff 15 (by kernel_rfl)).symm.trans h0_) (by decide), Q_X1_, Q_X4_, fun h0_ => absurd ((hoff 15 (by kernel_rfl)).symm.trans h0_) (by decide)⟩
        refine steps_cons ?_ ?_
        · rintro b a w' ⟨b1, b4, b15, m1_, m4_, m15_, ha, Q_HB, Q_B6, Q_B7, Q_C1, Q_C4, Q_C15, Q_X1_, Q_X4_, Q_X15_⟩ hb_ hon hoff
          refine ⟨_, rfl, fun K hK => ?_⟩
          have e99 : a.tmps[99]? = some (.bool true) := by rw [ha]; exact putSel_on (e := (8, 99, .bool true)) 7 rfl rfl (hon 8 (by kernel_rfl)) rfl
          replace ha := Aside0.mk ha
          have HB := Aside0.mk Q_HB
          have B6 := Aside0.mk Q_B6
          have B7 := Aside0.mk Q_B7
          have C1 := Aside0.mk (Q_C1 (hon 1 (by kernel_rfl)))
          have C4 := Aside0.mk (Q_C4 (hon 4 (by kernel_rfl)))
          refine off_ (wanted_off rfl rfl rfl (e99.trans (by first | rfl | (simp [*]; done)))) ?_
          refine hK.out _ _ ⟨b1, b4, b15, m1_, m4_, m15_, (by rw [ha.out]; exact putSel_upk 9 hb_ rfl rfl rfl), Q_HB, Q_B6, Q_B7, Q_C1, Q_C4, fun h0_ => absurd ((hoff 15 (by kernel_rfl)).symm.trans h0_) (by decide), Q_X1_, Q_X4_, fun h0_ => absurd ((hoff 15 (by kernel_rfl)).symm.trans h0_) (by decide)⟩
        refine steps_cons ?_ ?_
        · rintro b a w' ⟨b1, b4, b15, m1_, m4_, m15_, ha, Q_HB, Q_B6, Q_B7, Q_C1, Q_C4, Q_C15, Q_X1_, Q_X4_, Q_X15_⟩ hb_ hon hoff
          refine ⟨_, rfl, fun K hK => ?_⟩
          have e99 : a.tmps[99]? = some (.bool true) := by rw [ha]; exact putSel_on (e := (8, 99, .bool true)) 7 rfl rfl (hon 8 (by kernel_rfl)) rfl
          replace ha := Aside0.mk ha
          have HB := Aside0.mk Q_HB
          have B6 := Aside0.mk Q_B6
          have B7 := Aside0.mk Q_B7
          have C1 := Aside0.mk (Q_C1 (hon 1 (by kernel_rfl)))
          have C4 := Aside0.mk (Q_C4 (hon 4 (by kernel_rfl)))
          have z1 := blk_cell B6.out 1
          simp only [List.getElem?_toArray, List.getElem?_cons_zero, List.getElem?_cons_succ] at z1
          refine off_ (wanted_off rfl rfl rfl (e99.trans (by first | rfl | (simp [*]; done)))) ?_
          refine hK.out _ _ ⟨b1, b4, b15, m1_, m4_, m15_, (by rw [ha.out]; exact putSel_upk 10 hb_ rfl rfl rfl), Q_HB, Q_B6, Q_B7, Q_C1, Q_C4, fun h0_ => absurd ((hoff 15 (by kernel_rfl)).symm.trans h0_) (by decide), Q_X1_, Q_X4_, fun h0_ => absurd ((hoff 15 (by kernel_rfl)).symm.trans h0_) (by decide)⟩
        refine steps_cons ?_ ?_
        · rintro b a w' ⟨b1, b4, b15, m1_, m4_, m15_, ha, Q_HB, Q_B6, Q_B7, Q_C1, Q_C4, Q_C15, Q_X1_, Q_X4_, Q_X15_⟩ hb_ hon hoff
          refine ⟨_, rfl, fun K hK => ?_⟩
          have e99 : a.tmps[99]? = some (.bool true) := by rw [ha]; exact putSel_on (e := (8, 99, .bool true)) 7 rfl rfl (hon 8 (by kernel_rfl)) rfl
          replace ha := Aside0.mk ha
          have HB := Aside0.mk Q_HB
          have B6 := Aside0.mk Q_B6
          have B7 := Aside0.mk Q_B7
          have C1 := Aside0.mk (Q_C1 (hon 1 (by kernel_rfl)))
          have C4 := Aside0.mk (Q_C4 (hon 4 (by kernel_rfl)))
          have hlo := hlv.out
          refine off_ (wanted_off rfl rfl rfl (e99.trans (by first | rfl | (simp [*]; done)))) ?_
          refine hK.out _ _ ⟨b1, b4, b15, m1_, m4_, m15_, (by rw [ha.out]; exact putSel_upk 11 hb_ rfl rfl rfl), Q_HB, Q_B6, Q_B7, Q_C1, Q_C4, fun h0_ => absurd ((hoff 15 (by kernel_rfl)).symm.trans h0_) (by decide), Q_X1_, Q_X4_, fun h0_ => absurd ((hoff 15 (by kernel_rfl)).symm.trans h0_) (by decide)⟩
        refine steps_cons ?_ ?_
        · rintro b a w' ⟨b1, b4, b15, m1_, m4_, m15_, ha, Q_HB, Q_B6, Q_B7, Q_C1, Q_C4, Q_C15, Q_X1_, Q_X4_, Q_X15_⟩ hb_ hon hoff
          refine ⟨_, rfl, fun K hK => ?_⟩
          have e99 : a.tmps[99]? = some (.bool true) := by rw [ha]; exact putSel_on (e := (8, 99, .bool true)) 7 rfl rfl (hon 8 (by kernel_rfl)) rfl
          have e103 : a.tmps[103]? = some (undef) := by rw [ha]; exact putSel_on (e := (12, 103, undef)) 11 rfl rfl (hon 12 (by kernel_rfl)) rfl
          replace ha := Aside0.mk ha
          have HB := Aside0.mk Q_HB
          have B6 := Aside0.mk Q_B6
          have B7 := Aside0.mk Q_B7
          have C1 := Aside0.mk (Q_C1 (hon 1 (by kernel_rfl)))
          have C4 := Aside0.mk (Q_C4 (hon 4 (by kernel_rfl)))
          refine value_ (w1 := w') (v := .bool true) (by rfl) rfl ?_ ?_
          · go_simp
            (try simp only [i64_w])
            try rfl
          refine hK.out _ _ ⟨b1, b4, b15, m1_, m4_, m15_, (by rw [ha.out]; exact putSel_upk 12 hb_ rfl rfl rfl), Q_HB, Q_B6, Q_B7, Q_C1, Q_C4, fun h0_ => absurd ((hoff 15 (by kernel_rfl)).symm.trans h0_) (by decide), Q_X1_, Q_X4_, fun h0_ => absurd ((hoff 15 (by kernel_rfl)).symm.trans h0_) (by decide)⟩
        refine steps_cons ?_ ?_
        · rintro b a w' ⟨b1, b4, b15, m1_, m4_, m15_, ha, Q_HB, Q_B6, Q_B7, Q_C1, Q_C4, Q_C15, Q_X1_, Q_X4_, Q_X15_⟩ hb_ hon hoff
          refine ⟨_, rfl, fun K hK => ?_⟩
          have e104 : a.tmps[104]? = some (.bool true) := by rw [ha]; exact putSel_on (e := (13, 104, .bool true)) 12 rfl rfl (hon 13 (by kernel_rfl)) rfl
          replace ha := Aside0.mk ha
          have HB := Aside0.mk Q_HB
          have B6 := Aside0.mk Q_B6
          have B7 := Aside0.mk Q_B7
          have C1 := Aside0.mk (Q_C1 (hon 1 (by kernel_rfl)))
          have C4 := Aside0.mk (Q_C4 (hon 4 (by kernel_rfl)))
          refine goes_ Try.func22 (by kernel_rfl) rfl #[.bool true, .int .i64 1] (by rfl) rfl rfl (by first | (simp only [List.map_toArray, List.map_cons, List.map_nil, Act.eval, Array.getD_eq_getD_getElem?, Option.getD_some, e104]; done) | (simp only [List.map_toArray, List.map_cons, List.map_nil, Act.eval, Array.getD_eq_getD_getElem?, Option.getD_some, e104]; rfl)) ?_
          refine (jitlaw2_when.calls _ _ q3 w' hq3.out).mono ?_
          rintro e w9 ⟨rfl, hd_⟩
          have hb := Drawn0.below hd_
          clear hd_
          refine ⟨_, rfl, ?_⟩
          refine hK.out _ _ ⟨b1, b4, b15, m1_, m4_, m15_, (by rw [ha.out]; exact putSel_upk 13 hb_ rfl rfl rfl), below_step HB.out hb, blk_below B6.out hb, blk_below B7.out hb, fun _ => blk_below C1.out hb, fun _ => blk_below C4.out hb, fun h0_ => absurd ((hoff 15 (by kernel_rfl)).symm.trans h0_) (by decide), Q_X1_, Q_X4_, fun h0_ => absurd ((hoff 15 (by kernel_rfl)).symm.trans h0_) (by decide)⟩
        refine steps_cons ?_ ?_
        · rintro b a w' ⟨b1, b4, b15, m1_, m4_, m15_, ha, Q_HB, Q_B6, Q_B7, Q_C1, Q_C4, Q_C15, Q_X1_, Q_X4_, Q_X15_⟩ hb_ hon hoff
          refine ⟨_, rfl, fun K hK => ?_⟩
          have e93 : a.tmps[93]? = some (.int .i64 q1) := by rw [ha]; exact putSel_on (e := (2, 93, .int .i64 q1)) 2 rfl rfl (hon 2 (by kernel_rfl)) rfl
          have e96 : a.tmps[96]? = some (.int .i64 q2) := by rw [ha]; exact putSel_on (e := (5, 96, .int .i64 q2)) 5 rfl rfl (hon 5 (by kernel_rfl)) rfl
          have e105 : a.tmps[105]? = some (.int .i64 q3) := by rw [ha]; exact putSel_on (e := (14, 105, .int .i64 q3)) 13 rfl rfl (hon 14 (by kernel_rfl)) rfl
          replace ha := Aside0.mk ha
          have HB := Aside0.mk Q_HB
          have B6 := Aside0.mk Q_B6
          have B7 := Aside0.mk Q_B7
          have C1 := Aside0.mk (Q_C1 (hon 1 (by kernel_rfl)))
          have C4 := Aside0.mk (Q_C4 (hon 4 (by kernel_rfl)))
          refine value_ (w1 := w'.alloc (.cells #[.int .i64 q1, .int .i64 q2, .int .i64 q3] 30)) (v := .slice (some ⟨w'.heap.size, 0, none⟩) 3 3) (by rfl) rfl ?_ ?_
          · first | (go_simp; done) | (go_simp; rfl)
          refine hK.out _ _ ⟨b1, b4, w'.heap.size, m1_, m4_, (.slice (some ⟨w'.heap.size, 0, none⟩) 3 3), (by rw [ha.out]; exact putSel_upk 14 hb_ rfl rfl rfl), below_alloc HB.out _, blk_alloc B6.out _, blk_alloc B7.out _, fun _ => blk_alloc C1.out _, fun _ => blk_alloc C4.out _, fun h0_ => heap_alloc_new _ _, Q_X1_, Q_X4_, fun _ => rfl⟩
        refine steps_cons ?_ ?_
        · rintro b a w' ⟨b1, b4, b15, m1_, m4_, m15_, ha, Q_HB, Q_B6, Q_B7, Q_C1, Q_C4, Q_C15, Q_X1_, Q_X4_, Q_X15_⟩ hb_ hon hoff
          refine ⟨_, rfl, fun K hK => ?_⟩
          have e106 : a.tmps[106]? = some (m15_) := by rw [ha]; exact putSel_on (e := (15, 106, m15_)) 14 rfl rfl (hon 15 (by kernel_rfl)) rfl
          rw [Q_X15_ (hon 15 (by kernel_rfl))] at e106
          replace ha := Aside0.mk ha
          have HB := Aside0.mk Q_HB
          have B6 := Aside0.mk Q_B6
          have B7 := Aside0.mk Q_B7
          have C1 := Aside0.mk (Q_C1 (hon 1 (by kernel_rfl)))
          have C4 := Aside0.mk (Q_C4 (hon 4 (by kernel_rfl)))
          have C15 := Aside0.mk (Q_C15 (hon 15 (by kernel_rfl)))
          refine goes_ Try.func21 (by kernel_rfl) rfl #[.slice (some ⟨b15, 0, none⟩) 3 3] (by rfl) rfl rfl (by first | (simp only [List.map_toArray, List.map_cons, List.map_nil, Act.eval, Array.getD_eq_getD_getElem?, Option.getD_some, e106]; done) | (simp only [List.map_toArray, List.map_cons, List.map_nil, Act.eval, Array.getD_eq_getD_getElem?, Option.getD_some, e106]; rfl)) ?_
          refine (jitlaw2_errs.calls 500 _ 3 [q1, q2, q3] q4 w' (blkC 0 [q1, q2, q3] (by simp) C15.out) (Nat.le_refl _) hq4.out).mono ?_
          rintro e w9 ⟨rfl, hd_⟩
          have hb := Drawn0.below hd_
          clear hd_
          refine ⟨_, rfl, ?_⟩
          refine hK.out _ _ ⟨b1, b4, b15, m1_, m4_, m15_, (by rw [ha.out]; exact putSel_upk 15 hb_ rfl rfl rfl), below_step HB.out hb, blk_below B6.out hb, blk_below B7.out hb, fun _ => blk_below C1.out hb, fun _ => blk_below C4.out hb, fun _ => blk_below C15.out hb, Q_X1_, Q_X4_, Q_X15_⟩
        refine steps_cons ?_ ?_
        · rintro b a w' ⟨b1, b4, b15, m1_, m4_, m15_, ha, Q_HB, Q_B6, Q_B7, Q_C1, Q_C4, Q_C15, Q_X1_, Q_X4_, Q_X15_⟩ hb_ hon hoff
          refine ⟨_, rfl, fun K hK => ?_⟩
          have e107 : a.tmps[107]? = some (.int .i64 q4) := by rw [ha]; exact putSel_on (e := (16, 107, .int .i64 q4)) 15 rfl rfl (hon 16 (by kernel_rfl)) rfl
          replace ha := Aside0.mk ha
          have HB := Aside0.mk Q_HB
          have B6 := Aside0.mk Q_B6
          have B7 := Aside0.mk Q_B7
          have C1 := Aside0.mk (Q_C1 (hon 1 (by kernel_rfl)))
          have C4 := Aside0.mk (Q_C4 (hon 4 (by kernel_rfl)))
          have C15 := Aside0.mk (Q_C15 (hon 15 (by kernel_rfl)))
          refine value_ (w1 := w') (v := .int .i64 q4) (by rfl) rfl ?_ ?_
          · go_simp
            (try simp only [i64_w])
            try rfl
          refine hK.out _ _ ⟨b1, b4, b15, m1_, m4_, m15_, (by rw [ha.out]; exact putSel_upk 16 hb_ rfl rfl rfl), Q_HB, Q_B6, Q_B7, Q_C1, Q_C4, Q_C15, Q_X1_, Q_X4_, Q_X15_⟩
        exact steps_nil
      rintro b a w' hall ⟨b1, b4, b15, m1_, m4_, m15_, ha, Q_HB, Q_B6, Q_B7, Q_C1, Q_C4, Q_C15, Q_X1_, Q_X4_, Q_X15_⟩
      clear B6 B7 HB
      have hb0_ := hall 0 (by kernel_rfl)
      have hb1_ := hall 1 (by kernel_rfl)
      have hb2_ := hall 2 (by kernel_rfl)
      have hb3_ := hall 3 (by kernel_rfl)
      have hb4_ := hall 4 (by kernel_rfl)
      have hb5_ := hall 5 (by kernel_rfl)
      have hb7_ := hall 7 (by kernel_rfl)
      have hb8_ := hall 8 (by kernel_rfl)
      have hb9_ := hall 9 (by kernel_rfl)
      have hb10_ := hall 10 (by kernel_rfl)
      have hb11_ := hall 11 (by kernel_rfl)
      have hb12_ := hall 12 (by kernel_rfl)
      have hb13_ := hall 13 (by kernel_rfl)
      have hb14_ := hall 14 (by kernel_rfl)
      have hb15_ := hall 15 (by kernel_rfl)
      have hb16_ := hall 16 (by kernel_rfl)
      have hb17_ := hall 17 (by kernel_rfl)
      subst ha
      obtain rfl := Q_X1_ hb1_
      obtain rfl := Q_X4_ hb4_
      obtain rfl := Q_X15_ hb15_
      simp only [putSel, hb0_, hb1_, hb2_, hb3_, hb4_, hb5_, hb7_, hb8_, hb9_, hb10_, hb11_, hb12_, hb13_, hb14_, hb15_, hb16_, hb17_, if_true, Act.put, List.setIfInBounds_toArray, List.set_cons_zero, List.set_cons_succ]
      have HB := Aside0.mk Q_HB
      clear Q_HB
      have B6 := Aside0.mk Q_B6
      clear Q_B6
      have B7 := Aside0.mk Q_B7
      clear Q_B7
      have C1 := Aside0.mk (Q_C1 hb1_)
      clear Q_C1
      have C4 := Aside0.mk (Q_C4 hb4_)
      clear Q_C4
      have C15 := Aside0.mk (Q_C15 hb15_)
      clear Q_C15
      clear hall hb0_ hb1_ hb2_ hb3_ hb4_ hb5_ hb7_ hb8_ hb9_ hb10_ hb11_ hb12_ hb13_ hb14_ hb15_ hb16_ hb17_
      dsimp only [Exit.then]
      go_wp2_with fail
      go_meet
      case rel => exact ⟨rfl, HB.out, B6.out, B7.out⟩
    · have hq3 := Aside0.mk ((when_ok (decide (v.f1 < lv)) 1).trans (congrArg some (show (if decide (v.f1 < lv) = true then (1 : Int) else 0) = q3 from by rw [← HQ3.out, out_ge hlo])))
      have hlv := Aside0.mk hlo
      clear hlo HQ3
      refine start_ (n := 18) (S := fun w' => True) (ds := []) #[false, false, false, false, false, false, false, false, false, false, false, false, false, false, false, false, false, false] (by kernel_rfl) rfl rfl trivial (fun hHeld => ?_)
      refine with_tabW batt.tab13 batt.bits13 (fun HT_ HW_ => ?_)
      have n0 := Aside0.mk (below_drew1 HB.out)
      have n1 := Aside0.mk (blk_drew B6.out)
      have n2 := Aside0.mk (blk_drew B7.out)
      clear HB B6 B7 hHeld
      generalize World.drew _ = w8 at n0 n1 n2 ⊢
      have HB := n0
      have B6 := n1
      have B7 := n2
      clear n0 n1 n2
      refine pure_ (i := 6) (N := some 97) (v := ?_) (a' := ?_) #[false, false, false, false, false, false, true, false, false, false, false, false, false, false, false, false, false, false] rfl rfl (any_of HT_.out (by kernel_rfl)) (fun _ _ _ h => h) (Or.inl ⟨by rfl, ?_⟩) ?_ ?_
      rotate_left
      · intro w'
        go_simp
        with_reducible rfl
      rotate_left
      · simp only [Act.put, List.setIfInBounds_toArray, List.set_cons_zero, List.set_cons_succ, i64_w, i32_w]
        rfl
      refine inv_at [0, 1, 2, 3, 4, 5, 7, 8, 9, 10, 11, 12, 13, 14, 15, 16, 17] (fun a0_ b a w' => ∃ (b1 : Nat) (b4 : Nat) (b15 : Nat) (m1_ : Value) (m4_ : Value) (m15_ : Value), a = putSel a0_ b [(0, 91, .agg #[.string v.f0, .int .i64 v.f1, .int .i64 v.f2, .int .i64 v.f3, .int .i64 v.f4]), (1, 92, m1_), (2, 93, .int .i64 q1), (3, 94, .agg #[.string pv.f0, .int .i64 pv.f1, .int .i64 pv.f2]), (4, 95, m4_), (5, 96, .int .i64 q2), (7, 98, .bool false), (8, 99, .bool false), (9, 100, .int .i64 lv), (10, 101, .pointer (some ⟨g6, 1, none⟩)), (11, 102, .int .i64 v.f1), (12, 103, .bool (decide (v.f1 < lv))), (13, 104, .bool (decide (v.f1 < lv))), (14, 105, .int .i64 q3), (15, 106, m15_), (16, 107, .int .i64 q4), (17, 15, .int .i64 q4)] ∧ (Below w.heap.size w w') ∧ (w'.heap[g6]? = some (.cells #[.string v.f0, .int .i64 v.f1, .int .i64 v.f2, .int .i64 v.f3, .int .i64 v.f4] 34)) ∧ (w'.heap[g7]? = some (.cells #[.string pv.f0, .int .i64 pv.f1, .int .i64 pv.f2] 37)) ∧ (b 1 = true → w'.heap[b1]? = some (.cells #[.string v.f0, .int .i64 v.f1, .int .i64 v.f2, .int .i64 v.f3, .int .i64 v.f4] 34)) ∧ (b 4 = true → w'.heap[b4]? = some (.cells #[.string pv.f0, .int .i64 pv.f1, .int .i64 pv.f2] 37)) ∧ (b 15 = true → w'.heap[b15]? = some (.cells #[.int .i64 q1, .int .i64 q2, .int .i64 q3] 30)) ∧ (b 1 = true → (m1_ : Value) = .slice (some ⟨b1, 0, none⟩) 1 1) ∧ (b 4 = true → (m4_ : Value) = .slice (some ⟨b4, 0, none⟩) 1 1) ∧ (b 15 = true → (m15_ : Value) = .slice (some ⟨b15, 0, none⟩) 3 3)) HT_.out HW_.out (by kernel_rfl) (by kernel_rfl) ?_ ?_ ?_
      · exact ⟨0, 0, 0, .bool false, .bool false, .bool false, by simp only [putSel, Bool.false_eq_true, if_false], HB.out, B6.out, B7.out, fun h_ => absurd h_ (by decide), fun h_ => absurd h_ (by decide), fun h_ => absurd h_ (by decide), fun h_ => absurd h_ (by decide), fun h_ => absurd h_ (by decide), fun h_ => absurd h_ (by decide)⟩
      · skip
        clear B6 B7 HB
        refine steps_cons ?_ ?_
        · rintro b a w' ⟨b1, b4, b15, m1_, m4_, m15_, ha, Q_HB, Q_B6, Q_B7, Q_C1, Q_C4, Q_C15, Q_X1_, Q_X4_, Q_X15_⟩ hb_ hon hoff
          refine ⟨_, rfl, fun K hK => ?_⟩
          have e6 : a.tmps[6]? = some (.pointer (some ⟨g6, 0, none⟩)) := by rw [ha]; exact (putSel_off rfl).trans rfl
          replace ha := Aside0.mk ha
          have HB := Aside0.mk Q_HB
          have B6 := Aside0.mk Q_B6
          have B7 := Aside0.mk Q_B7
          have z0 := blk_cell B6.out 0
          have z1 := blk_cell B6.out 1
          have z2 := blk_cell B6.out 2
          have z3 := blk_cell B6.out 3
          have z4 := blk_cell B6.out 4
          simp only [List.getElem?_toArray, List.getElem?_cons_zero, List.getElem?_cons_succ] at z0 z1 z2 z3 z4
          refine value_ (w1 := w') (v := .agg #[.string v.f0, .int .i64 v.f1, .int .i64 v.f2, .int .i64 v.f3, .int .i64 v.f4]) (by rfl) rfl ?_ ?_
          · go_simp
            (try simp only [i64_w])
            try rfl
          refine hK.out _ _ ⟨b1, b4, b15, m1_, m4_, m15_, (by rw [ha.out]; exact putSel_upk 0 hb_ rfl rfl rfl), Q_HB, Q_B6, Q_B7, fun h0_ => absurd ((hoff 1 (by kernel_rfl)).symm.trans h0_) (by decide), Q_C4, fun h0_ => absurd ((hoff 15 (by kernel_rfl)).symm.trans h0_) (by decide), fun h0_ => absurd ((hoff 1 (by kernel_rfl)).symm.trans h0_) (by decide), Q_X4_, fun h0_ => absurd ((hoff 15 (by kernel_rfl)).symm.trans h0_) (by decide)⟩
        refine steps_cons ?_ ?_
        · rintro b a w' ⟨b1, b4, b15, m1_, m4_, m15_, ha, Q_HB, Q_B6, Q_B7, Q_C1, Q_C4, Q_C15, Q_X1_, Q_X4_, Q_X15_⟩ hb_ hon hoff
          refine ⟨_, rfl, fun K hK => ?_⟩
          have e91 : a.tmps[91]? = some (.agg #[.string v.f0, .int .i64 v.f1, .int .i64 v.f2, .int .i64 v.f3, .int .i64 v.f4]) := by rw [ha]; exact putSel_on (e := (0, 91, .agg #[.string v.f0, .int .i64 v.f1, .int .i64 v.f2, .int .i64 v.f3, .int .i64 v.f4])) 0 rfl rfl (hon 0 (by kernel_rfl)) rfl
          replace ha := Aside0.mk ha
          have HB := Aside0.mk Q_HB
          have B6 := Aside0.mk Q_B6
          have B7 := Aside0.mk Q_B7
          refine value_ (w1 := w'.alloc (.cells #[.string v.f0, .int .i64 v.f1, .int .i64 v.f2, .int .i64 v.f3, .int .i64 v.f4] 34)) (v := .slice (some ⟨w'.heap.size, 0, none⟩) 1 1) (by rfl) rfl ?_ ?_
          · first | (go_simp; done) | (go_simp; rfl)
          refine hK.out _ _ ⟨w'.heap.size, b4, b15, (.slice (some ⟨w'.heap.size, 0, none⟩) 1 1), m4_, m15_, (by rw [ha.out]; exact putSel_upk 1 hb_ rfl rfl rfl), below_alloc HB.out _, blk_alloc B6.out _, blk_alloc B7.out _, fun h0_ => heap_alloc_new _ _, fun h0_ => blk_alloc (Q_C4 h0_) _, fun h0_ => absurd ((hoff 15 (by kernel_rfl)).symm.trans h0_) (by decide), fun _ => rfl, Q_X4_, fun h0_ => absurd ((hoff 15 (by kernel_rfl)).symm.trans h0_) (by decide)⟩
        refine steps_cons ?_ ?_
        · rintro b a w' ⟨b1, b4, b15, m1_, m4_, m15_, ha, Q_HB, Q_B6, Q_B7, Q_C1, Q_C4, Q_C15, Q_X1_, Q_X4_, Q_X15_⟩ hb_ hon hoff
          refine ⟨_, rfl, fun K hK => ?_⟩
          have e92 : a.tmps[92]? = some (m1_) := by rw [ha]; exact putSel_on (e := (1, 92, m1_)) 1 rfl rfl (hon 1 (by kernel_rfl)) rfl
          rw [Q_X1_ (hon 1 (by kernel_rfl))] at e92
          replace ha := Aside0.mk ha
          have HB := Aside0.mk Q_HB
          have B6 := Aside0.mk Q_B6
          have B7 := Aside0.mk Q_B7
          have C1 := Aside0.mk (Q_C1 (hon 1 (by kernel_rfl)))
          refine goes_ Try.func12 (by kernel_rfl) rfl #[.slice (some ⟨b1, 0, none⟩) 1 1] (by rfl) rfl rfl (by first | (simp only [List.map_toArray, List.map_cons, List.map_nil, Act.eval, Array.getD_eq_getD_getElem?, Option.getD_some, e92]; done) | (simp only [List.map_toArray, List.map_cons, List.map_nil, Act.eval, Array.getD_eq_getD_getElem?, Option.getD_some, e92]; rfl)) ?_
          refine (jitref2_VehiclesFault.calls 500 _ 1 [v] q1 w' (row1 v C1.out (k34_mk _ _)) (Nat.le_refl _) hq1.out).mono ?_
          rintro e w9 ⟨rfl, hb⟩
          refine ⟨_, rfl, ?_⟩
          refine hK.out _ _ ⟨b1, b4, b15, m1_, m4_, m15_, (by rw [ha.out]; exact putSel_upk 2 hb_ rfl rfl rfl), below_step HB.out hb, blk_below B6.out hb, blk_below B7.out hb, fun _ => blk_below C1.out hb, fun h0_ => blk_below (Q_C4 h0_) hb, fun h0_ => absurd ((hoff 15 (by kernel_rfl)).symm.trans h0_) (by decide), Q_X1_, Q_X4_, fun h0_ => absurd ((hoff 15 (by kernel_rfl)).symm.trans h0_) (by decide)⟩
        refine steps_cons ?_ ?_
        · rintro b a w' ⟨b1, b4, b15, m1_, m4_, m15_, ha, Q_HB, Q_B6, Q_B7, Q_C1, Q_C4, Q_C15, Q_X1_, Q_X4_, Q_X15_⟩ hb_ hon hoff
          refine ⟨_, rfl, fun K hK => ?_⟩
          have e7 : a.tmps[7]? = some (.pointer (some ⟨g7, 0, none⟩)) := by rw [ha]; exact (putSel_off rfl).trans rfl
          replace ha := Aside0.mk ha
          have HB := Aside0.mk Q_HB
          have B6 := Aside0.mk Q_B6
          have B7 := Aside0.mk Q_B7
          have z0 := blk_cell B7.out 0
          have z1 := blk_cell B7.out 1
          have z2 := blk_cell B7.out 2
          simp only [List.getElem?_toArray, List.getElem?_cons_zero, List.getElem?_cons_succ] at z0 z1 z2
          refine value_ (w1 := w') (v := .agg #[.string pv.f0, .int .i64 pv.f1, .int .i64 pv.f2]) (by rfl) rfl ?_ ?_
          · go_simp
            (try simp only [i64_w])
            try rfl
          refine hK.out _ _ ⟨b1, b4, b15, m1_, m4_, m15_, (by rw [ha.out]; exact putSel_upk 3 hb_ rfl rfl rfl), Q_HB, Q_B6, Q_B7, Q_C1, fun h0_ => absurd ((hoff 4 (by kernel_rfl)).symm.trans h0_) (by decide), fun h0_ => absurd ((hoff 15 (by kernel_rfl)).symm.trans h0_) (by decide), Q_X1_, fun h0_ => absurd ((hoff 4 (by kernel_rfl)).symm.trans h0_) (by decide), fun h0_ => absurd ((hoff 15 (by kernel_rfl)).symm.trans h0_) (by decide)⟩
        refine steps_cons ?_ ?_
        · rintro b a w' ⟨b1, b4, b15, m1_, m4_, m15_, ha, Q_HB, Q_B6, Q_B7, Q_C1, Q_C4, Q_C15, Q_X1_, Q_X4_, Q_X15_⟩ hb_ hon hoff
          refine ⟨_, rfl, fun K hK => ?_⟩
          have e94 : a.tmps[94]? = some (.agg #[.string pv.f0, .int .i64 pv.f1, .int .i64 pv.f2]) := by rw [ha]; exact putSel_on (e := (3, 94, .agg #[.string pv.f0, .int .i64 pv.f1, .int .i64 pv.f2])) 3 rfl rfl (hon 3 (by kernel_rfl)) rfl
          replace ha := Aside0.mk ha
          have HB := Aside0.mk Q_HB
          have B6 := Aside0.mk Q_B6
          have B7 := Aside0.mk Q_B7
          refine value_ (w1 := w'.alloc (.cells #[.string pv.f0, .int .i64 pv.f1, .int .i64 pv.f2] 37)) (v := .slice (some ⟨w'.heap.size, 0, none⟩) 1 1) (by rfl) rfl ?_ ?_
          · first | (go_simp; done) | (go_simp; rfl)
          refine hK.out _ _ ⟨b1, w'.heap.size, b15, m1_, (.slice (some ⟨w'.heap.size, 0, none⟩) 1 1), m15_, (by rw [ha.out]; exact putSel_upk 4 hb_ rfl rfl rfl), below_alloc HB.out _, blk_alloc B6.out _, blk_alloc B7.out _, fun h0_ => blk_alloc (Q_C1 h0_) _, fun h0_ => heap_alloc_new _ _, fun h0_ => absurd ((hoff 15 (by kernel_rfl)).symm.trans h0_) (by decide), Q_X1_, fun _ => rfl, fun h0_ => absurd ((hoff 15 (by kernel_rfl)).symm.trans h0_) (by decide)⟩
        refine steps_cons ?_ ?_
        · rintro b a w' ⟨b1, b4, b15, m1_, m4_, m15_, ha, Q_HB, Q_B6, Q_B7, Q_C1, Q_C4, Q_C15, Q_X1_, Q_X4_, Q_X15_⟩ hb_ hon hoff
          refine ⟨_, rfl, fun K hK => ?_⟩
          have e95 : a.tmps[95]? = some (m4_) := by rw [ha]; exact putSel_on (e := (4, 95, m4_)) 4 rfl rfl (hon 4 (by kernel_rfl)) rfl
          rw [Q_X4_ (hon 4 (by kernel_rfl))] at e95
          replace ha := Aside0.mk ha
          have HB := Aside0.mk Q_HB
          have B6 := Aside0.mk Q_B6
          have B7 := Aside0.mk Q_B7
          have C1 := Aside0.mk (Q_C1 (hon 1 (by kernel_rfl)))
          have C4 := Aside0.mk (Q_C4 (hon 4 (by kernel_rfl)))
          refine goes_ Try.func14 (by kernel_rfl) rfl #[.slice (some ⟨b4, 0, none⟩) 1 1] (by rfl) rfl rfl (by first | (simp only [List.map_toArray, List.map_cons, List.map_nil, Act.eval, Array.getD_eq_getD_getElem?, Option.getD_some, e95]; done) | (simp only [List.map_toArray, List.map_cons, List.map_nil, Act.eval, Array.getD_eq_getD_getElem?, Option.getD_some, e95]; rfl)) ?_
          refine (jitref2_PlacesFault.calls 500 _ 1 [pv] q2 w' (row1 pv C4.out (k37_mk _ _)) (Nat.le_refl _) hq2.out).mono ?_
          rintro e w9 ⟨rfl, hb⟩
          refine ⟨_, rfl, ?_⟩
          refine hK.out _ _ ⟨b1, b4, b15, m1_, m4_, m15_, (by rw [ha.out]; exact putSel_upk 5 hb_ rfl rfl rfl), below_step HB.out hb, blk_below B6.out hb, blk_below B7.out hb, fun _ => blk_below C1.out hb, fun _ => blk_below C4.out hb, fun h0_ => absurd ((hoff 15 (by kernel_rfl)).symm.trans h0_) (by decide), Q_X1_, Q_X4_, fun h0_ => absurd ((hoff 15 (by kernel_rfl)).symm.trans h0_) (by decide)⟩
        refine steps_cons ?_ ?_
        · rintro b a w' ⟨b1, b4, b15, m1_, m4_, m15_, ha, Q_HB, Q_B6, Q_B7, Q_C1, Q_C4, Q_C15, Q_X1_, Q_X4_, Q_X15_⟩ hb_ hon hoff
          refine ⟨_, rfl, fun K hK => ?_⟩
          have e97 : a.tmps[97]? = some (.int .i64 lv) := by rw [ha]; exact (putSel_off rfl).trans rfl
          replace ha := Aside0.mk ha
          have HB := Aside0.mk Q_HB
          have B6 := Aside0.mk Q_B6
          have B7 := Aside0.mk Q_B7
          have hlo := hlv.out
          refine value_ (w1 := w') (v := .bool false) (by rfl) rfl ?_ ?_
          · go_simp
            (try simp only [i64_w])
            try rfl
          refine hK.out _ _ ⟨b1, b4, b15, m1_, m4_, m15_, (by rw [ha.out]; exact putSel_upk 6 hb_ rfl rfl rfl), Q_HB, Q_B6, Q_B7, Q_C1, Q_C4, fun h0_ => absurd ((hoff 15 (by kernel_rfl)).symm.trans h0_) (by decide), Q_X1_, Q_X4_, fun h0_ => absurd ((hoff 15 (by kernel_rfl)).symm.trans h0_) (by decide)⟩
        refine steps_cons ?_ ?_
        · rintro b a w' ⟨b1, b4, b15, m1_, m4_, m15_, ha, Q_HB, Q_B6, Q_B7, Q_C1, Q_C4, Q_C15, Q_X1_, Q_X4_, Q_X15_⟩ hb_ hon hoff
          refine ⟨_, rfl, fun K hK => ?_⟩
          have e98 : a.tmps[98]? = some (.bool false) := by rw [ha]; exact putSel_on (e := (7, 98, .bool false)) 6 rfl rfl (hon 7 (by kernel_rfl)) rfl
          replace ha := Aside0.mk ha
          have HB := Aside0.mk Q_HB
          have B6 := Aside0.mk Q_B6
          have B7 := Aside0.mk Q_B7
          have C1 := Aside0.mk (Q_C1 (hon 1 (by kernel_rfl)))
          have C4 := Aside0.mk (Q_C4 (hon 4 (by kernel_rfl)))
          have hlo := hlv.out
          refine value_ (w1 := w') (v := .bool false) (by rfl) rfl ?_ ?_
          · go_simp
            (try simp only [i64_w])
            try rfl
          refine hK.out _ _ ⟨b1, b4, b15, m1_, m4_, m15_, (by rw [ha.out]; exact putSel_upk 7 hb_ rfl rfl rfl), Q_HB, Q_B6, Q_B7, Q_C1, Q_C4, fun h0_ => absurd ((hoff 15 (by kernel_rfl)).symm.trans h0_) (by decide), Q_X1_, Q_X4_, fun h0_ => absurd ((hoff 15 (by kernel_rfl)).symm.trans h0_) (by decide)⟩
        refine steps_cons ?_ ?_
        · rintro b a w' ⟨b1, b4, b15, m1_, m4_, m15_, ha, Q_HB, Q_B6, Q_B7, Q_C1, Q_C4, Q_C15, Q_X1_, Q_X4_, Q_X15_⟩ hb_ hon hoff
          refine ⟨_, rfl, fun K hK => ?_⟩
          have e8 : a.tmps[8]? = some (.int .i64 lv) := by rw [ha]; exact (putSel_off rfl).trans rfl
          have e99 : a.tmps[99]? = some (.bool false) := by rw [ha]; exact putSel_on (e := (8, 99, .bool false)) 7 rfl rfl (hon 8 (by kernel_rfl)) rfl
          replace ha := Aside0.mk ha
          have HB := Aside0.mk Q_HB
          have B6 := Aside0.mk Q_B6
          have B7 := Aside0.mk Q_B7
          have C1 := Aside0.mk (Q_C1 (hon 1 (by kernel_rfl)))
          have C4 := Aside0.mk (Q_C4 (hon 4 (by kernel_rfl)))
          refine value_ (w1 := w') (v := .int .i64 lv) (wanted_on rfl rfl rfl (e99.trans (by first | rfl | (simp [*]; done)))) rfl ?_ ?_
          · go_simp
            (try simp only [i64_w])
            try rfl
          refine hK.out _ _ ⟨b1, b4, b15, m1_, m4_, m15_, (by rw [ha.out]; exact putSel_upk 8 hb_ rfl rfl rfl), Q_HB, Q_B6, Q_B7, Q_C1, Q_C4, fun h0_ => absurd ((hoff 15 (by kernel_rfl)).symm.trans h0_) (by decide), Q_X1_, Q_X4_, fun h0_ => absurd ((hoff 15 (by kernel_rfl)).symm.trans h0_) (by decide)⟩
        refine steps_cons ?_ ?_
        · rintro b a w' ⟨b1, b4, b15, m1_, m4_, m15_, ha, Q_HB, Q_B6, Q_B7, Q_C1, Q_C4, Q_C15, Q_X1_, Q_X4_, Q_X15_⟩ hb_ hon hoff
          refine ⟨_, rfl, fun K hK => ?_⟩
          have e6 : a.tmps[6]? = some (.pointer (some ⟨g6, 0, none⟩)) := by rw [ha]; exact (putSel_off rfl).trans rfl
          have e99 : a.tmps[99]? = some (.bool false) := by rw [ha]; exact putSel_on (e := (8, 99, .bool false)) 7 rfl rfl (hon 8 (by kernel_rfl)) rfl
          replace ha := Aside0.mk ha
          have HB := Aside0.mk Q_HB
          have B6 := Aside0.mk Q_B6
          have B7 := Aside0.mk Q_B7
          have C1 := Aside0.mk (Q_C1 (hon 1 (by kernel_rfl)))
          have C4 := Aside0.mk (Q_C4 (hon 4 (by kernel_rfl)))
          refine value_ (w1 := w') (v := .pointer (some ⟨g6, 1, none⟩)) (wanted_on rfl rfl rfl (e99.trans (by first | rfl | (simp [*]; done)))) rfl ?_ ?_
          · go_simp
            (try simp only [i64_w])
            try rfl
          refine hK.out _ _ ⟨b1, b4, b15, m1_, m4_, m15_, (by rw [ha.out]; exact putSel_upk 9 hb_ rfl rfl rfl), Q_HB, Q_B6, Q_B7, Q_C1, Q_C4, fun h0_ => absurd ((hoff 15 (by kernel_rfl)).symm.trans h0_) (by decide), Q_X1_, Q_X4_, fun h0_ => absurd ((hoff 15 (by kernel_rfl)).symm.trans h0_) (by decide)⟩
        refine steps_cons ?_ ?_
        · rintro b a w' ⟨b1, b4, b15, m1_, m4_, m15_, ha, Q_HB, Q_B6, Q_B7, Q_C1, Q_C4, Q_C15, Q_X1_, Q_X4_, Q_X15_⟩ hb_ hon hoff
          refine ⟨_, rfl, fun K hK => ?_⟩
          have e101 : a.tmps[101]? = some (.pointer (some ⟨g6, 1, none⟩)) := by rw [ha]; exact putSel_on (e := (10, 101, .pointer (some ⟨g6, 1, none⟩))) 9 rfl rfl (hon 10 (by kernel_rfl)) rfl
          have e99 : a.tmps[99]? = some (.bool false) := by rw [ha]; exact putSel_on (e := (8, 99, .bool false)) 7 rfl rfl (hon 8 (by kernel_rfl)) rfl
          replace ha := Aside0.mk ha
          have HB := Aside0.mk Q_HB
          have B6 := Aside0.mk Q_B6
          have B7 := Aside0.mk Q_B7
          have C1 := Aside0.mk (Q_C1 (hon 1 (by kernel_rfl)))
          have C4 := Aside0.mk (Q_C4 (hon 4 (by kernel_rfl)))
          have z1 := blk_cell B6.out 1
          simp only [List.getElem?_toArray, List.getElem?_cons_zero, List.getElem?_cons_succ] at z1
          refine value_ (w1 := w') (v := .int .i64 v.f1) (wanted_on rfl rfl rfl (e99.trans (by first | rfl | (simp [*]; done)))) rfl ?_ ?_
          · go_simp
            (try simp only [i64_w])
            try rfl
          refine hK.out _ _ ⟨b1, b4, b15, m1_, m4_, m15_, (by rw [ha.out]; exact putSel_upk 10 hb_ rfl rfl rfl), Q_HB, Q_B6, Q_B7, Q_C1, Q_C4, fun h0_ => absurd ((hoff 15 (by kernel_rfl)).symm.trans h0_) (by decide), Q_X1_, Q_X4_, fun h0_ => absurd ((hoff 15 (by kernel_rfl)).symm.trans h0_) (by decide)⟩
        refine steps_cons ?_ ?_
        · rintro b a w' ⟨b1, b4, b15, m1_, m4_, m15_, ha, Q_HB, Q_B6, Q_B7, Q_C1, Q_C4, Q_C15, Q_X1_, Q_X4_, Q_X15_⟩ hb_ hon hoff
          refine ⟨_, rfl, fun K hK => ?_⟩
          have e100 : a.tmps[100]? = some (.int .i64 lv) := by rw [ha]; exact putSel_on (e := (9, 100, .int .i64 lv)) 8 rfl rfl (hon 9 (by kernel_rfl)) rfl
          have e102 : a.tmps[102]? = some (.int .i64 v.f1) := by rw [ha]; exact putSel_on (e := (11, 102, .int .i64 v.f1)) 10 rfl rfl (hon 11 (by kernel_rfl)) rfl
          have e99 : a.tmps[99]? = some (.bool false) := by rw [ha]; exact putSel_on (e := (8, 99, .bool false)) 7 rfl rfl (hon 8 (by kernel_rfl)) rfl
          replace ha := Aside0.mk ha
          have HB := Aside0.mk Q_HB
          have B6 := Aside0.mk Q_B6
          have B7 := Aside0.mk Q_B7
          have C1 := Aside0.mk (Q_C1 (hon 1 (by kernel_rfl)))
          have C4 := Aside0.mk (Q_C4 (hon 4 (by kernel_rfl)))
          have hlo := hlv.out
          refine value_ (w1 := w') (v := .bool (decide (v.f1 < lv))) (wanted_on rfl rfl rfl (e99.trans (by first | rfl | (simp [*]; done)))) rfl ?_ ?_
          · go_simp
            (try simp only [i64_w])
            try rfl
          refine hK.out _ _ ⟨b1, b4, b15, m1_, m4_, m15_, (by rw [ha.out]; exact putSel_upk 11 hb_ rfl rfl rfl), Q_HB, Q_B6, Q_B7, Q_C1, Q_C4, fun h0_ => absurd ((hoff 15 (by kernel_rfl)).symm.trans h0_) (by decide), Q_X1_, Q_X4_, fun h0_ => absurd ((hoff 15 (by kernel_rfl)).symm.trans h0_) (by decide)⟩
        refine steps_cons ?_ ?_
        · rintro b a w' ⟨b1, b4, b15, m1_, m4_, m15_, ha, Q_HB, Q_B6, Q_B7, Q_C1, Q_C4, Q_C15, Q_X1_, Q_X4_, Q_X15_⟩ hb_ hon hoff
          refine ⟨_, rfl, fun K hK => ?_⟩
          have e99 : a.tmps[99]? = some (.bool false) := by rw [ha]; exact putSel_on (e := (8, 99, .bool false)) 7 rfl rfl (hon 8 (by kernel_rfl)) rfl
          have e103 : a.tmps[103]? = some (.bool (decide (v.f1 < lv))) := by rw [ha]; exact putSel_on (e := (12, 103, .bool (decide (v.f1 < lv)))) 11 rfl rfl (hon 12 (by kernel_rfl)) rfl
          replace ha := Aside0.mk ha
          have HB := Aside0.mk Q_HB
          have B6 := Aside0.mk Q_B6
          have B7 := Aside0.mk Q_B7
          have C1 := Aside0.mk (Q_C1 (hon 1 (by kernel_rfl)))
          have C4 := Aside0.mk (Q_C4 (hon 4 (by kernel_rfl)))
          refine value_ (w1 := w') (v := .bool (decide (v.f1 < lv))) (by rfl) rfl ?_ ?_
          · go_simp
            (try simp only [i64_w])
            try rfl
          refine hK.out _ _ ⟨b1, b4, b15, m1_, m4_, m15_, (by rw [ha.out]; exact putSel_upk 12 hb_ rfl rfl rfl), Q_HB, Q_B6, Q_B7, Q_C1, Q_C4, fun h0_ => absurd ((hoff 15 (by kernel_rfl)).symm.trans h0_) (by decide), Q_X1_, Q_X4_, fun h0_ => absurd ((hoff 15 (by kernel_rfl)).symm.trans h0_) (by decide)⟩
        refine steps_cons ?_ ?_
        · rintro b a w' ⟨b1, b4, b15, m1_, m4_, m15_, ha, Q_HB, Q_B6, Q_B7, Q_C1, Q_C4, Q_C15, Q_X1_, Q_X4_, Q_X15_⟩ hb_ hon hoff
          refine ⟨_, rfl, fun K hK => ?_⟩
          have e104 : a.tmps[104]? = some (.bool (decide (v.f1 < lv))) := by rw [ha]; exact putSel_on (e := (13, 104, .bool (decide (v.f1 < lv)))) 12 rfl rfl (hon 13 (by kernel_rfl)) rfl
          replace ha := Aside0.mk ha
          have HB := Aside0.mk Q_HB
          have B6 := Aside0.mk Q_B6
          have B7 := Aside0.mk Q_B7
          have C1 := Aside0.mk (Q_C1 (hon 1 (by kernel_rfl)))
          have C4 := Aside0.mk (Q_C4 (hon 4 (by kernel_rfl)))
          refine goes_ Try.func22 (by kernel_rfl) rfl #[.bool (decide (v.f1 < lv)), .int .i64 1] (by rfl) rfl rfl (by first | (simp only [List.map_toArray, List.map_cons, List.map_nil, Act.eval, Array.getD_eq_getD_getElem?, Option.getD_some, e104]; done) | (simp only [List.map_toArray, List.map_cons, List.map_nil, Act.eval, Array.getD_eq_getD_getElem?, Option.getD_some, e104]; rfl)) ?_
          refine (jitlaw2_when.calls _ _ q3 w' hq3.out).mono ?_
          rintro e w9 ⟨rfl, hd_⟩
          have hb := Drawn0.below hd_
          clear hd_
          refine ⟨_, rfl, ?_⟩
          refine hK.out _ _ ⟨b1, b4, b15, m1_, m4_, m15_, (by rw [ha.out]; exact putSel_upk 13 hb_ rfl rfl rfl), below_step HB.out hb, blk_below B6.out hb, blk_below B7.out hb, fun _ => blk_below C1.out hb, fun _ => blk_below C4.out hb, fun h0_ => absurd ((hoff 15 (by kernel_rfl)).symm.trans h0_) (by decide), Q_X1_, Q_X4_, fun h0_ => absurd ((hoff 15 (by kernel_rfl)).symm.trans h0_) (by decide)⟩
        refine steps_cons ?_ ?_
        · rintro b a w' ⟨b1, b4, b15, m1_, m4_, m15_, ha, Q_HB, Q_B6, Q_B7, Q_C1, Q_C4, Q_C15, Q_X1_, Q_X4_, Q_X15_⟩ hb_ hon hoff
          refine ⟨_, rfl, fun K hK => ?_⟩
          have e93 : a.tmps[93]? = some (.int .i64 q1) := by rw [ha]; exact putSel_on (e := (2, 93, .int .i64 q1)) 2 rfl rfl (hon 2 (by kernel_rfl)) rfl
          have e96 : a.tmps[96]? = some (.int .i64 q2) := by rw [ha]; exact putSel_on (e := (5, 96, .int .i64 q2)) 5 rfl rfl (hon 5 (by kernel_rfl)) rfl
          have e105 : a.tmps[105]? = some (.int .i64 q3) := by rw [ha]; exact putSel_on (e := (14, 105, .int .i64 q3)) 13 rfl rfl (hon 14 (by kernel_rfl)) rfl
          replace ha := Aside0.mk ha
          have HB := Aside0.mk Q_HB
          have B6 := Aside0.mk Q_B6
          have B7 := Aside0.mk Q_B7
          have C1 := Aside0.mk (Q_C1 (hon 1 (by kernel_rfl)))
          have C4 := Aside0.mk (Q_C4 (hon 4 (by kernel_rfl)))
          refine value_ (w1 := w'.alloc (.cells #[.int .i64 q1, .int .i64 q2, .int .i64 q3] 30)) (v := .slice (some ⟨w'.heap.size, 0, none⟩) 3 3) (by rfl) rfl ?_ ?_
          · first | (go_simp; done) | (go_simp; rfl)
          refine hK.out _ _ ⟨b1, b4, w'.heap.size, m1_, m4_, (.slice (some ⟨w'.heap.size, 0, none⟩) 3 3), (by rw [ha.out]; exact putSel_upk 14 hb_ rfl rfl rfl), below_alloc HB.out _, blk_alloc B6.out _, blk_alloc B7.out _, fun _ => blk_alloc C1.out _, fun _ => blk_alloc C4.out _, fun h0_ => heap_alloc_new _ _, Q_X1_, Q_X4_, fun _ => rfl⟩
        refine steps_cons ?_ ?_
        · rintro b a w' ⟨b1, b4, b15, m1_, m4_, m15_, ha, Q_HB, Q_B6, Q_B7, Q_C1, Q_C4, Q_C15, Q_X1_, Q_X4_, Q_X15_⟩ hb_ hon hoff
          refine ⟨_, rfl, fun K hK => ?_⟩
          have e106 : a.tmps[106]? = some (m15_) := by rw [ha]; exact putSel_on (e := (15, 106, m15_)) 14 rfl rfl (hon 15 (by kernel_rfl)) rfl
          rw [Q_X15_ (hon 15 (by kernel_rfl))] at e106
          replace ha := Aside0.mk ha
          have HB := Aside0.mk Q_HB
          have B6 := Aside0.mk Q_B6
          have B7 := Aside0.mk Q_B7
          have C1 := Aside0.mk (Q_C1 (hon 1 (by kernel_rfl)))
          have C4 := Aside0.mk (Q_C4 (hon 4 (by kernel_rfl)))
          have C15 := Aside0.mk (Q_C15 (hon 15 (by kernel_rfl)))
          refine goes_ Try.func21 (by kernel_rfl) rfl #[.slice (some ⟨b15, 0, none⟩) 3 3] (by rfl) rfl rfl (by first | (simp only [List.map_toArray, List.map_cons, List.map_nil, Act.eval, Array.getD_eq_getD_getElem?, Option.getD_some, e106]; done) | (simp only [List.map_toArray, List.map_cons, List.map_nil, Act.eval, Array.getD_eq_getD_getElem?, Option.getD_some, e106]; rfl)) ?_
          refine (jitlaw2_errs.calls 500 _ 3 [q1, q2, q3] q4 w' (blkC 0 [q1, q2, q3] (by simp) C15.out) (Nat.le_refl _) hq4.out).mono ?_
          rintro e w9 ⟨rfl, hd_⟩
          have hb := Drawn0.below hd_
          clear hd_
          refine ⟨_, rfl, ?_⟩
          refine hK.out _ _ ⟨b1, b4, b15, m1_, m4_, m15_, (by rw [ha.out]; exact putSel_upk 15 hb_ rfl rfl rfl), below_step HB.out hb, blk_below B6.out hb, blk_below B7.out hb, fun _ => blk_below C1.out hb, fun _ => blk_below C4.out hb, fun _ => blk_below C15.out hb, Q_X1_, Q_X4_, Q_X15_⟩
        refine steps_cons ?_ ?_
        · rintro b a w' ⟨b1, b4, b15, m1_, m4_, m15_, ha, Q_HB, Q_B6, Q_B7, Q_C1, Q_C4, Q_C15, Q_X1_, Q_X4_, Q_X15_⟩ hb_ hon hoff
          refine ⟨_, rfl, fun K hK => ?_⟩
          have e107 : a.tmps[107]? = some (.int .i64 q4) := by rw [ha]; exact putSel_on (e := (16, 107, .int .i64 q4)) 15 rfl rfl (hon 16 (by kernel_rfl)) rfl
          replace ha := Aside0.mk ha
          have HB := Aside0.mk Q_HB
          have B6 := Aside0.mk Q_B6
          have B7 := Aside0.mk Q_B7
          have C1 := Aside0.mk (Q_C1 (hon 1 (by kernel_rfl)))
          have C4 := Aside0.mk (Q_C4 (hon 4 (by kernel_rfl)))
          have C15 := Aside0.mk (Q_C15 (hon 15 (by kernel_rfl)))
          refine value_ (w1 := w') (v := .int .i64 q4) (by rfl) rfl ?_ ?_
          · go_simp
            (try simp only [i64_w])
            try rfl
          refine hK.out _ _ ⟨b1, b4, b15, m1_, m4_, m15_, (by rw [ha.out]; exact putSel_upk 16 hb_ rfl rfl rfl), Q_HB, Q_B6, Q_B7, Q_C1, Q_C4, Q_C15, Q_X1_, Q_X4_, Q_X15_⟩
        exact steps_nil
      rintro b a w' hall ⟨b1, b4, b15, m1_, m4_, m15_, ha, Q_HB, Q_B6, Q_B7, Q_C1, Q_C4, Q_C15, Q_X1_, Q_X4_, Q_X15_⟩
      clear B6 B7 HB
      have hb0_ := hall 0 (by kernel_rfl)
      have hb1_ := hall 1 (by kernel_rfl)
      have hb2_ := hall 2 (by kernel_rfl)
      have hb3_ := hall 3 (by kernel_rfl)
      have hb4_ := hall 4 (by kernel_rfl)
      have hb5_ := hall 5 (by kernel_rfl)
      have hb7_ := hall 7 (by kernel_rfl)
      have hb8_ := hall 8 (by kernel_rfl)
      have hb9_ := hall 9 (by kernel_rfl)
      have hb10_ := hall 10 (by kernel_rfl)
      have hb11_ := hall 11 (by kernel_rfl)
      have hb12_ := hall 12 (by kernel_rfl)
      have hb13_ := hall 13 (by kernel_rfl)
      have hb14_ := hall 14 (by kernel_rfl)
      have hb15_ := hall 15 (by kernel_rfl)
      have hb16_ := hall 16 (by kernel_rfl)
      have hb17_ := hall 17 (by kernel_rfl)
      subst ha
      obtain rfl := Q_X1_ hb1_
      obtain rfl := Q_X4_ hb4_
      obtain rfl := Q_X15_ hb15_
      simp only [putSel, hb0_, hb1_, hb2_, hb3_, hb4_, hb5_, hb7_, hb8_, hb9_, hb10_, hb11_, hb12_, hb13_, hb14_, hb15_, hb16_, hb17_, if_true, Act.put, List.setIfInBounds_toArray, List.set_cons_zero, List.set_cons_succ]
      have HB := Aside0.mk Q_HB
      clear Q_HB
      have B6 := Aside0.mk Q_B6
      clear Q_B6
      have B7 := Aside0.mk Q_B7
      clear Q_B7
      have C1 := Aside0.mk (Q_C1 hb1_)
      clear Q_C1
      have C4 := Aside0.mk (Q_C4 hb4_)
      clear Q_C4
      have C15 := Aside0.mk (Q_C15 hb15_)
      clear Q_C15
      clear hall hb0_ hb1_ hb2_ hb3_ hb4_ hb5_ hb7_ hb8_ hb9_ hb10_ hb11_ hb12_ hb13_ hb14_ hb15_ hb16_ hb17_
      dsimp only [Exit.then]
      go_wp2_with fail
      go_meet
      case rel => exact ⟨rfl, HB.out, B6.out, B7.out⟩
  case rest =>
  rename_i K0 hK0
  clear HB B6 B7 hq1 hq2 HQ3 hq4
  obtain ⟨rfl, hB, hb6, hb7⟩ := hcut
  refine hK0 _ _ ?_
  exact part14 w _ g6 g7 v pv lv wt lg ng eg nn en q4 q5 q6 ⟨hB⟩ ⟨hb6⟩ ⟨hb7⟩ HGC HGD HNC HND HE1 HE2 HQ5 HQ6
end Go.Proofs.Ytfphebbfgphldaa.PBatteriesGain

