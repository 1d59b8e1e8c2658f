-- Machine side of the law BatteriesGain: functions, their contracts and the walk, put together by wip/tools/pp.py out of the printer's lines and of this seat's own.
import Derived.Test.YtfphebbfgphldaaB1PBatteriesGainx0
import Derived.Test.YtfphebbfgphldaaB1PBatteriesGainx7
namespace Go.Proofs.Ytfphebbfgphldaa.PBatteriesGain
open Go.RowKit Go.Proofs.Ytfphebbfgphldaa.MLib  Go.Proofs.YtfphebbfgphldaaW.PrintWords Go.Proofs.YtfphebbfgphldaaW.PrintLast Go.Proofs.YtfphebbfgphldaaW.PrintMore
attribute [local go_sem] max2_int min2_int max_two min_two max_three min_three max_four min_four   -- for this text's walks alone
set_option linter.unusedVariables false
set_option linter.unusedSimpArgs false

/-! ### fleet_CheckShifts: function 141 -/
mutual
def fleet_CheckShifts.l0 : Nat → List (S114) → List (S114) → Int → Int → Option (Int)
  | 0, _, _, _, _ => none
  | k + 1, x0, x8, x9, x10 => if x10 < x9 then (if 0 ≤ x10 then (if x10 < (x8.length : Int) then (if ((rd_T114 x8 x10).f0) < 0 then (fleet_CheckShifts.j1 k x0 x10 x8 x9 x10 true ((rd_T114 x8 x10).f0) ((rd_T114 x8 x10).f1)) else (if ((rd_T114 x8 x10).f0) ≥ ((rd_T114 x8 x10).f1) then (fleet_CheckShifts.j1 k x0 x10 x8 x9 x10 true ((rd_T114 x8 x10).f0) ((rd_T114 x8 x10).f1)) else (fleet_CheckShifts.j1 k x0 x10 x8 x9 x10 (decide (((rd_T114 x8 x10).f1) > 345686400000)) ((rd_T114 x8 x10).f0) ((rd_T114 x8 x10).f1)))) else (none)) else (none)) else (some 0)
def fleet_CheckShifts.j1 : Nat → List (S114) → Int → List (S114) → Int → Int → Bool → Int → Int → Option (Int)
  | 0, _, _, _, _, _, _, _, _ => none
  | k + 1, x0, x3, x8, x9, x10, x29, x291000, x291001 => if x29 = true then (some 1) else (if x3 > 0 then (if 0 ≤ (wrap64 (x3 - 1)) then (if (wrap64 (x3 - 1)) < (x0.length : Int) then ((fleet_byShift.f k x291000 x291001 ((rd_T114 x0 (wrap64 (x3 - 1))).f0) ((rd_T114 x0 (wrap64 (x3 - 1))).f1)).bind fun t292 => (if t292 < 0 then (some 7) else (fleet_CheckShifts.l0 k x0 x8 x9 (wrap64 (x10 + 1))))) else (none)) else (none)) else (fleet_CheckShifts.l0 k x0 x8 x9 (wrap64 (x10 + 1))))
end
def fleet_CheckShifts.f (k : Nat) (l0 : List (S114)) : Option (Int) := if (l0.length : Int) > 500 then (some 2) else (fleet_CheckShifts.l0 k l0 l0 (l0.length : Int) 0)
theorem fleet_CheckShifts.mono_l : ∀ k, (∀ y0 y1 y2 y3, LeO (fleet_CheckShifts.l0 k y0 y1 y2 y3) (fleet_CheckShifts.l0 (k + 1) y0 y1 y2 y3)) ∧ (∀ y0 y1 y2 y3 y4 y5 y6 y7, LeO (fleet_CheckShifts.j1 k y0 y1 y2 y3 y4 y5 y6 y7) (fleet_CheckShifts.j1 (k + 1) y0 y1 y2 y3 y4 y5 y6 y7))
  | 0 => ⟨fun _ _ _ _ r h => by simp [fleet_CheckShifts.l0] at h, fun _ _ _ _ _ _ _ _ r h => by simp [fleet_CheckShifts.j1] at h⟩
  | k + 1 => by
    obtain ⟨ih0, ih1⟩ := fleet_CheckShifts.mono_l k
    refine ⟨?_, ?_⟩
    · intro y0 y1 y2 y3
      unfold fleet_CheckShifts.l0
      repeat' first
      | (with_reducible exact ih0 _ _ _ _)
      | (with_reducible exact ih1 _ _ _ _ _ _ _ _)
      | (with_reducible exact fleet_byShift.mono _ _ _ _ _)
      | (with_reducible exact LeO.refl _)
      | (with_reducible exact LeO.none _)
      | (with_reducible refine LeO.ite ?_ ?_)
      | (with_reducible refine LeO.bind ?_ (fun _ => ?_))
      | exact ih0 _ _ _ _
      | exact ih1 _ _ _ _ _ _ _ _
      | exact fleet_byShift.mono _ _ _ _ _
      | exact LeO.none _
      | refine LeO.ite ?_ ?_
      | refine LeO.bind ?_ (fun _ => ?_)
    · intro y0 y1 y2 y3 y4 y5 y6 y7
      unfold fleet_CheckShifts.j1
      repeat' first
      | (with_reducible exact ih0 _ _ _ _)
      | (with_reducible exact ih1 _ _ _ _ _ _ _ _)
      | (with_reducible exact fleet_byShift.mono _ _ _ _ _)
      | (with_reducible exact LeO.refl _)
      | (with_reducible exact LeO.none _)
      | (with_reducible refine LeO.ite ?_ ?_)
      | (with_reducible refine LeO.bind ?_ (fun _ => ?_))
      | exact ih0 _ _ _ _
      | exact ih1 _ _ _ _ _ _ _ _
      | exact fleet_byShift.mono _ _ _ _ _
      | exact LeO.none _
      | refine LeO.ite ?_ ?_
      | refine LeO.bind ?_ (fun _ => ?_)
theorem fleet_CheckShifts.mono : ∀ a0 k, LeO (fleet_CheckShifts.f k a0) (fleet_CheckShifts.f (k + 1) a0) := by
  intro a0 k
  obtain ⟨ih0, ih1⟩ := fleet_CheckShifts.mono_l k
  unfold fleet_CheckShifts.f
  repeat' first
      | (with_reducible exact ih0 _ _ _ _)
      | (with_reducible exact ih1 _ _ _ _ _ _ _ _)
      | (with_reducible exact fleet_byShift.mono _ _ _ _ _)
      | (with_reducible exact LeO.refl _)
      | (with_reducible exact LeO.none _)
      | (with_reducible refine LeO.ite ?_ ?_)
      | (with_reducible refine LeO.bind ?_ (fun _ => ?_))
      | exact ih0 _ _ _ _
      | exact ih1 _ _ _ _ _ _ _ _
      | exact fleet_byShift.mono _ _ _ _ _
      | exact LeO.none _
      | refine LeO.ite ?_ ?_
      | refine LeO.bind ?_ (fun _ => ?_)
def fleet_CheckShifts.T8 : Bool × List (List Nat × List Nat) := (true, [([], []), ([0], [0]), ([1], [1]), ([2], [2]), ([2], [2]), ([2], [2]), ([5, 2], [2, 5]), ([4, 6, 2], [2, 4, 6]), ([7, 2], [2, 7]), ([3, 8, 2, 2], [2, 3, 8]), ([9, 2], [2, 9]), ([2, 10], [2, 10])])
def fleet_CheckShifts.B8 : List Nat := [0, 1, 3, 7, 7, 7, 39, 119, 247, 511, 1023, 2047]
theorem fleet_CheckShifts.tab8 : rtab .any (opsOf Try.f141 8) = fleet_CheckShifts.T8 := by kernel_rfl
theorem fleet_CheckShifts.bits8 : waitsOk fleet_CheckShifts.T8.2 fleet_CheckShifts.B8 = true := by kernel_rfl
set_option maxHeartbeats 8000000 in
set_option maxRecDepth 100000 in
theorem fleet_CheckShifts.calls (k : Nat) (A0 : Option Addr) (c0 : Nat) (l0 : List (S114)) (r : Int) (w : World) (hr0 : Kd.C k114 w A0 l0.length l0) (hc0 : l0.length ≤ c0) (h : fleet_CheckShifts.f k l0 = some r) :
    Calls Try.prog 141 #[.slice A0 l0.length c0] w fun e w' => e = .returned (.int .i64 r) ∧ Below w.heap.size w w' := by
  have hu114 := Try.underlying114
  have HR0 := Aside0.mk hr0
  have HC0 := Aside0.mk hc0
  clear hr0 hc0
  have HB := Aside0.mk (Below.refl w.heap.size w)
  have H : (if (l0.length : Int) > 500 then (some 2) else (fleet_CheckShifts.l0 k l0 l0 (l0.length : Int) 0)) = some r := h
  clear h
  by_cases c2 : (l0.length : Int) > 500
  · rw [if_pos c2] at H
    have c2b0 : decide (500 < (l0.length : Int)) = true := decide_eq_true c2
    have c2b1 : decide (500 < l0.length) = true := decide_eq_true (by omega)
    clear c2
    obtain rfl := Option.some.inj H
    go_enter Try.func141, Try.ntmps141
    go_wp2
    go_ret
    exact ⟨by first | rfl | (simp [errW_none, errW_some] <;> rfl) | (simp [*, errW_none, errW_some] <;> rfl), by repeat (first | (with_reducible first | exact HB.out | apply below_alloc | apply pw_below_drewN | apply below_drew1) | exact HB.out)⟩
  · rw [if_neg c2] at H
    have c2b0 : decide (500 < (l0.length : Int)) = false := decide_eq_false c2
    have c2b1 : decide (500 < l0.length) = false := decide_eq_false (by omega)
    clear c2
    have H' := Aside0.mk H
    clear H
    go_enter Try.func141, Try.ntmps141
    go_wp2
    go_loopg [10] k (fun kq v10 w' => ∃ (x10_1 : Int), v10 = .int .i64 x10_1 ∧ Aside0 (fleet_CheckShifts.l0 kq l0 l0 (l0.length : Int) x10_1 = some r) ∧ Aside0 (kq ≤ k) ∧ Aside0 (Below w.heap.size w w'))
    case atStart => exact ⟨(0), (by first | rfl | (simp; done) | (simp [*]; done)), H', ⟨Nat.le_refl _⟩, ⟨by repeat (first | (with_reducible first | exact HB.out | apply below_alloc | apply pw_below_drewN | apply below_drew1) | exact HB.out)⟩⟩
    case round =>
      clear H'
      try clear c1
      try clear c2
      try clear c2b0
      try clear c2b1
      try clear p2
      obtain ⟨x10_1, rfl, HA, HK1, HB⟩ := hrel
      cases gk with
      | zero => exact absurd HA.out (by simp [fleet_CheckShifts.l0])
      | succ k1 =>
        have H := HA.out
        clear HA
        simp only [fleet_CheckShifts.l0] at H
        by_cases c3 : x10_1 < (l0.length : Int)
        · rw [if_pos c3] at H
          have c3b0 : decide (x10_1 < (l0.length : Int)) = true := decide_eq_true c3
          clear c3
          by_cases c4 : 0 ≤ x10_1
          · rw [if_pos c4] at H
            have c4b0 : decide (0 ≤ x10_1) = true := decide_eq_true c4
            clear c4
            by_cases c5 : x10_1 < (l0.length : Int)
            · rw [if_pos c5] at H
              have c5b0 : decide (x10_1 < (l0.length : Int)) = true := decide_eq_true c5
              clear c5
              have HC6 := Aside0.mk H
              clear H
              have p289 : 0 ≤ (x10_1 : Int) := of_decide_eq_true (by first | (with_reducible assumption) | assumption)
              have q289 : x10_1 < (l0.length : Int) := of_decide_eq_true (by first | (with_reducible assumption) | assumption)
              obtain ⟨ad289, e289, hx289_0, hx289_1⟩ := at_T114 HR0.out x10_1 p289 q289
              cases e289
              replace hx289_0 := (HB.out.cell (World.block_lt_of_cell? w _ hx289_0)).trans hx289_0
              replace hx289_1 := (HB.out.cell (World.block_lt_of_cell? w _ hx289_1)).trans hx289_1
              replace p289 := eq_true p289
              replace q289 := eq_true q289
              go_upto_region 6 with (first | ((with_reducible refine gate_dst (N := 4) rfl ?_); refine box_event ?hg (N := 4) ?hd (cs := #[.int .i64 0, .int .i64 0]) (t := 114) ?hr ?_; (case hd => rfl); (case hg => rfl); (case hr => first | (go_simp; done) | (go_simp; rfl)); intro gb290 hg w7 hbox hb; have n0_ := Aside0.mk (below_step (by repeat (first | (with_reducible first | exact HB.out | apply below_alloc | apply pw_below_drewN | apply below_drew1) | exact HB.out)) hb); have n1_ := Aside0.mk (hbox); have n2_ := Aside0.mk ((by rw [hg]; exact (below_size (by repeat (first | (with_reducible first | exact HB.out | apply below_alloc | apply pw_below_drewN | apply below_drew1) | exact HB.out))) : w.heap.size ≤ gb290)); have n3_ := Aside0.mk ((by rw [hg]; exact (below_size (by repeat (first | (with_reducible first | exact HB.out | apply below_alloc | apply pw_below_drewN | apply below_drew1) | exact HB.out))) : w.heap.size ≤ gb290)); clear HB; have HB := n0_; have BK290 := n1_; have GW290 := n2_; have GE290 := n3_; clear n0_ n1_ n2_ n3_; clear hb hbox hg; have hcz8_0 : w7.cell? ⟨gb290, 0, none⟩ = some (.int .i64 0) := (blk_cell BK290.out 0).trans rfl; have hcz8_1 : w7.cell? ⟨gb290, 1, none⟩ = some (.int .i64 0) := (blk_cell BK290.out 1).trans rfl; have hfz8_0 := blk_frozen BK290.out 0; have hfz8_1 := blk_frozen BK290.out 1))
              (try simp only [Act.put, List.setIfInBounds_toArray, List.set_cons_zero, List.set_cons_succ])
              go_cut [29] (fun v29 wc => ∃ (kq : Nat) (x29_5 : Bool), v29 = .bool x29_5 ∧ Aside0 (fleet_CheckShifts.j1 kq l0 x10_1 l0 (l0.length : Int) x10_1 x29_5 ((rd_T114 l0 x10_1).f0) ((rd_T114 l0 x10_1).f1) = some r) ∧ Aside0 (kq ≤ k1) ∧ Aside0 (wc.heap[gb290]? = some (.cells #[.int .i64 ((rd_T114 l0 x10_1).f0), .int .i64 ((rd_T114 l0 x10_1).f1)] 114 (0, 0))) ∧ Aside0 (Below w.heap.size w wc))
              case first =>
                have H := HC6.out
                clear HC6
                by_cases c9 : ((rd_T114 l0 x10_1).f0) < 0
                · rw [if_pos c9] at H
                  have c9b0 : decide (((rd_T114 l0 x10_1).f0) < 0) = true := decide_eq_true c9
                  clear c9
                  (first | rw [c9b0] | (simp only [i64_w, i32_w]; rw [c9b0]) | skip)
                  have H' := Aside0.mk H
                  clear H
                  have hcz10_0 : w7.cell? ⟨gb290, 0, none⟩ = some (.int .i64 0) := (blk_cell BK290.out 0).trans rfl
                  have hcz10_1 : w7.cell? ⟨gb290, 1, none⟩ = some (.int .i64 0) := (blk_cell BK290.out 1).trans rfl
                  have hfz10_0 := blk_frozen BK290.out 0
                  have hfz10_1 := blk_frozen BK290.out 1
                  go_wp2
                  go_meet
                  case rel => exact ⟨_, (true), (by first | rfl | (simp; done) | (simp [*]; done)), H', ⟨by have := HK1.out; first | omega | exact Nat.le_refl _⟩, ⟨by (with_reducible repeat (first | refine blk_drewN ?_ _ | refine blk_drew ?_ | refine blk_alloc ?_ _)); refine blk_put (cs := #[.int .i64 ((rd_T114 l0 x10_1).f0), .int .i64 0]) ?_ 1 _ rfl; (with_reducible repeat (first | refine blk_drewN ?_ _ | refine blk_drew ?_ | refine blk_alloc ?_ _)); refine blk_put (cs := #[.int .i64 0, .int .i64 0]) ?_ 0 _ rfl; (with_reducible repeat (first | refine blk_drewN ?_ _ | refine blk_drew ?_ | refine blk_alloc ?_ _)); exact BK290.out⟩, ⟨by repeat (first | (with_reducible first | exact HB.out | apply below_alloc | apply pw_below_drewN | apply below_drew1 | refine below_set ?_ GE290.out) | exact HB.out)⟩⟩
                · rw [if_neg c9] at H
                  have c9b0 : decide (((rd_T114 l0 x10_1).f0) < 0) = false := decide_eq_false c9
                  clear c9
                  (first | rw [c9b0] | (simp only [i64_w, i32_w]; rw [c9b0]) | skip)
                  by_cases c11 : ((rd_T114 l0 x10_1).f0) ≥ ((rd_T114 l0 x10_1).f1)
                  · rw [if_pos c11] at H
                    have c11b0 : decide (((rd_T114 l0 x10_1).f1) ≤ ((rd_T114 l0 x10_1).f0)) = true := decide_eq_true c11
                    clear c11
                    have H' := Aside0.mk H
                    clear H
                    have hcz12_0 : w7.cell? ⟨gb290, 0, none⟩ = some (.int .i64 0) := (blk_cell BK290.out 0).trans rfl
                    have hcz12_1 : w7.cell? ⟨gb290, 1, none⟩ = some (.int .i64 0) := (blk_cell BK290.out 1).trans rfl
                    have hfz12_0 := blk_frozen BK290.out 0
                    have hfz12_1 := blk_frozen BK290.out 1
                    go_wp2
                    go_meet
                    case rel => exact ⟨_, (true), (by first | rfl | (simp; done) | (simp [*]; done)), H', ⟨by have := HK1.out; first | omega | exact Nat.le_refl _⟩, ⟨by (with_reducible repeat (first | refine blk_drewN ?_ _ | refine blk_drew ?_ | refine blk_alloc ?_ _)); refine blk_put (cs := #[.int .i64 ((rd_T114 l0 x10_1).f0), .int .i64 0]) ?_ 1 _ rfl; (with_reducible repeat (first | refine blk_drewN ?_ _ | refine blk_drew ?_ | refine blk_alloc ?_ _)); refine blk_put (cs := #[.int .i64 0, .int .i64 0]) ?_ 0 _ rfl; (with_reducible repeat (first | refine blk_drewN ?_ _ | refine blk_drew ?_ | refine blk_alloc ?_ _)); exact BK290.out⟩, ⟨by repeat (first | (with_reducible first | exact HB.out | apply below_alloc | apply pw_below_drewN | apply below_drew1 | refine below_set ?_ GE290.out) | exact HB.out)⟩⟩
                  · rw [if_neg c11] at H
                    have c11b0 : decide (((rd_T114 l0 x10_1).f1) ≤ ((rd_T114 l0 x10_1).f0)) = false := decide_eq_false c11
                    clear c11
                    have H' := Aside0.mk H
                    clear H
                    have hcz13_0 : w7.cell? ⟨gb290, 0, none⟩ = some (.int .i64 0) := (blk_cell BK290.out 0).trans rfl
                    have hcz13_1 : w7.cell? ⟨gb290, 1, none⟩ = some (.int .i64 0) := (blk_cell BK290.out 1).trans rfl
                    have hfz13_0 := blk_frozen BK290.out 0
                    have hfz13_1 := blk_frozen BK290.out 1
                    go_wp2
                    go_meet
                    case rel => exact ⟨_, (decide (((rd_T114 l0 x10_1).f1) > 345686400000)), (by first | rfl | (simp; done) | (simp [*]; done)), H', ⟨by have := HK1.out; first | omega | exact Nat.le_refl _⟩, ⟨by (with_reducible repeat (first | refine blk_drewN ?_ _ | refine blk_drew ?_ | refine blk_alloc ?_ _)); refine blk_put (cs := #[.int .i64 ((rd_T114 l0 x10_1).f0), .int .i64 0]) ?_ 1 _ rfl; (with_reducible repeat (first | refine blk_drewN ?_ _ | refine blk_drew ?_ | refine blk_alloc ?_ _)); refine blk_put (cs := #[.int .i64 0, .int .i64 0]) ?_ 0 _ rfl; (with_reducible repeat (first | refine blk_drewN ?_ _ | refine blk_drew ?_ | refine blk_alloc ?_ _)); exact BK290.out⟩, ⟨by repeat (first | (with_reducible first | exact HB.out | apply below_alloc | apply pw_below_drewN | apply below_drew1 | refine below_set ?_ GE290.out) | exact HB.out)⟩⟩
              case rest =>
                clear HC6
                try clear c1
                try clear c2
                try clear c2b0
                try clear c2b1
                try clear p2
                try clear q2
                try clear hx2
                try clear c3
                try clear c3b0
                try clear c4
                try clear c4b0
                try clear c5
                try clear c5b0
                try clear c9
                try clear c9b0
                try clear c11
                try clear c11b0
                try clear hcz10_0
                try clear hcz10_1
                try clear hcz12_0
                try clear hcz12_1
                try clear hcz13_0
                try clear hcz13_1
                try clear hcz8_0
                try clear hcz8_1
                try clear hfz10_0
                try clear hfz10_1
                try clear hfz12_0
                try clear hfz12_1
                try clear hfz13_0
                try clear hfz13_1
                try clear hfz8_0
                try clear hfz8_1
                try clear hx289_0
                try clear hx289_1
                try clear p2
                try clear p289
                try clear q289
                obtain ⟨kq, x29_5, rfl, HA, HJ5, BK290, HB⟩ := hcut
                cases kq with
                | zero => exact absurd HA.out (by simp [fleet_CheckShifts.j1])
                | succ kj5 =>
                  have H := HA.out
                  clear HA
                  simp only [fleet_CheckShifts.j1] at H
                  by_cases c14 : x29_5 = true
                  · subst c14
                    have H1 : (some 1) = some r := by rw [if_pos rfl] at H; exact H
                    clear H
                    have H := H1
                    clear H1
                    obtain rfl := Option.some.inj H
                    go_wp2
                    go_ret
                    exact ⟨by first | rfl | (simp [errW_none, errW_some] <;> rfl) | (simp [*, errW_none, errW_some] <;> rfl), by repeat (first | (with_reducible first | exact HB.out | apply below_alloc | apply pw_below_drewN | apply below_drew1 | refine below_set ?_ GE290.out) | exact HB.out)⟩
                  · replace c14 := Bool.eq_false_iff.mpr c14
                    subst c14
                    have H1 : (if x10_1 > 0 then (if 0 ≤ (wrap64 (x10_1 - 1)) then (if (wrap64 (x10_1 - 1)) < (l0.length : Int) then ((fleet_byShift.f kj5 ((rd_T114 l0 x10_1).f0) ((rd_T114 l0 x10_1).f1) ((rd_T114 l0 (wrap64 (x10_1 - 1))).f0) ((rd_T114 l0 (wrap64 (x10_1 - 1))).f1)).bind fun t292 => (if t292 < 0 then (some 7) else (fleet_CheckShifts.l0 kj5 l0 l0 (l0.length : Int) (wrap64 (x10_1 + 1))))) else (none)) else (none)) else (fleet_CheckShifts.l0 kj5 l0 l0 (l0.length : Int) (wrap64 (x10_1 + 1)))) = some r := by rw [if_neg (show ¬ (false = true) by decide)] at H; exact H
                    clear H
                    have H := H1
                    clear H1
                    by_cases c15 : x10_1 > 0
                    · rw [if_pos c15] at H
                      have c15b0 : decide (0 < x10_1) = true := decide_eq_true c15
                      clear c15
                      obtain ⟨ji16, hji16⟩ : ∃ j_ : Int, (wrap64 (x10_1 - 1)) = j_ := ⟨_, rfl⟩
                      replace H : (if 0 ≤ (ji16) then (if (ji16) < (l0.length : Int) then ((fleet_byShift.f kj5 ((rd_T114 l0 x10_1).f0) ((rd_T114 l0 x10_1).f1) ((rd_T114 l0 (ji16)).f0) ((rd_T114 l0 (ji16)).f1)).bind fun t292 => (if t292 < 0 then (some 7) else (fleet_CheckShifts.l0 kj5 l0 l0 (l0.length : Int) (wrap64 (x10_1 + 1))))) else (none)) else (none)) = some r := by first | (rw [hji16] at H; exact H) | (simp only [hji16] at H ⊢; exact H)
                      have hji16w : (IntKind.i64.wrap (x10_1 - 1)) = ji16 := (i64_w _).trans hji16
                      by_cases c17 : 0 ≤ (ji16)
                      · rw [if_pos c17] at H
                        have c17b0 : decide (0 ≤ (ji16)) = true := decide_eq_true c17
                        clear c17
                        by_cases c18 : (ji16) < (l0.length : Int)
                        · rw [if_pos c18] at H
                          have c18b0 : decide ((ji16) < (l0.length : Int)) = true := decide_eq_true c18
                          clear c18
                          replace H := Option.bind_eq_some_iff.mp H
                          obtain ⟨t292, A190, H⟩ := H
                          replace H : (if t292 < 0 then (some 7) else (fleet_CheckShifts.l0 kj5 l0 l0 (l0.length : Int) (wrap64 (x10_1 + 1)))) = some r := H
                          have A19 := Aside0.mk A190
                          clear A190
                          by_cases c20 : t292 < 0
                          · rw [if_pos c20] at H
                            have c20b0 : decide (t292 < 0) = true := decide_eq_true c20
                            clear c20
                            obtain rfl := Option.some.inj H
                            try go_wp2
                            have n0_ := Aside0.mk (blk_drew BK290.out)
                            have n1_ := Aside0.mk (below_drew1 HB.out)
                            clear BK290
                            clear HB
                            have BK290 := n0_
                            have HB := n1_
                            clear n0_ n1_
                            have p291 : 0 ≤ ((ji16) : Int) := of_decide_eq_true (by first | (with_reducible assumption) | assumption)
                            have q291 : (ji16) < (l0.length : Int) := of_decide_eq_true (by first | (with_reducible assumption) | assumption)
                            obtain ⟨ad291, e291, hx291_0, hx291_1⟩ := at_T114 HR0.out (ji16) p291 q291
                            have hw291_1 := hx291_1
                            have hw291_0 := hx291_0
                            obtain rfl : ad289 = ad291 := (by injection e291)
                            replace hx291_0 := (HB.out.cell (World.block_lt_of_cell? w _ hx291_0)).trans hx291_0
                            replace hx291_1 := (HB.out.cell (World.block_lt_of_cell? w _ hx291_1)).trans hx291_1
                            replace p291 := eq_true p291
                            replace q291 := eq_true q291
                            refine start_ (n := 12) (S := fun w' => w'.cell? ⟨gb290, 0, none⟩ = some (.int .i64 ((rd_T114 l0 x10_1).f0)) ∧ w'.cell? ⟨gb290, 1, none⟩ = some (.int .i64 ((rd_T114 l0 x10_1).f1)) ∧ w'.cell? (ad289.add (((ji16)).toNat * 2)) = some (.int .i64 ((rd_T114 l0 (ji16)).f0)) ∧ w'.cell? ⟨(ad289.add (((ji16)).toNat * 2)).block, (ad289.add (((ji16)).toNat * 2)).off + 1, none⟩ = some (.int .i64 ((rd_T114 l0 (ji16)).f1))) (ds := []) #[false, false, false, false, false, false, false, false, false, false, false, false] (by kernel_rfl) rfl rfl ⟨(blk_cell BK290.out 0).trans rfl, (blk_cell BK290.out 1).trans rfl, ((HB.out.cell (World.block_lt_of_cell? w _ hw291_0)).trans hw291_0), ((HB.out.cell (World.block_lt_of_cell? w _ hw291_1)).trans hw291_1)⟩ (fun hHeld => ?_); refine with_tabW fleet_CheckShifts.tab8 fleet_CheckShifts.bits8 (fun HT_ HW_ => ?_)
                            generalize wc.drew = w21 at BK290 HB hx291_0 hx291_1 hHeld ⊢
                            refine pure_ (i := 0) (N := some 30) (v := ?_) (a' := ?_) #[true, false, false, false, false, false, false, false, false, false, false, false] rfl rfl (any_of HT_.out (by kernel_rfl)) (fun _ _ _ h => h) (Or.inl ⟨by rfl, ?_⟩) ?_ ?_
                            rotate_left
                            · intro w'
                              go_simp
                              with_reducible rfl
                            rotate_left
                            · simp only [Act.put, List.setIfInBounds_toArray, List.set_cons_zero, List.set_cons_succ, i64_w, i32_w]
                              rfl
                            refine pure_ (i := 1) (N := some 31) (v := ?_) (a' := ?_) #[true, true, false, false, false, false, false, false, false, false, false, false] rfl rfl (any_of HT_.out (by kernel_rfl)) (fun _ _ _ h => h) (Or.inl ⟨by rfl, ?_⟩) ?_ ?_
                            rotate_left
                            · intro w'
                              go_simp
                              with_reducible rfl
                            rotate_left
                            · simp only [Act.put, List.setIfInBounds_toArray, List.set_cons_zero, List.set_cons_succ, i64_w, i32_w]
                              rfl
                            refine pure_ (i := 2) (N := some 32) (v := ?_) (a' := ?_) #[true, true, true, false, false, false, false, false, false, false, false, false] rfl rfl (any_of HT_.out (by kernel_rfl)) (fun _ _ _ h => h) (Or.inl ⟨by rfl, ?_⟩) ?_ ?_
                            rotate_left
                            · intro w'
                              go_simp
                              with_reducible rfl
                            rotate_left
                            · simp only [Act.put, List.setIfInBounds_toArray, List.set_cons_zero, List.set_cons_succ, i64_w, i32_w]
                              rfl
                            refine pure_ (i := 4) (N := some 34) (v := ?_) (a' := ?_) #[true, true, true, false, true, false, false, false, false, false, false, false] rfl rfl (any_of HT_.out (by kernel_rfl)) (fun _ _ _ h => h) (Or.inl ⟨by rfl, ?_⟩) ?_ ?_
                            rotate_left
                            · intro w'
                              go_simp
                              with_reducible rfl
                            rotate_left
                            · simp only [Act.put, List.setIfInBounds_toArray, List.set_cons_zero, List.set_cons_succ, i64_w, i32_w]
                              rfl
                            refine pure_ (i := 5) (N := some 35) (v := ?_) (a' := ?_) #[true, true, true, false, true, true, false, false, false, false, false, false] rfl rfl (any_of HT_.out (by kernel_rfl)) (fun _ _ _ h => h) (Or.inl ⟨by rfl, ?_⟩) ?_ ?_
                            rotate_left
                            · intro w'
                              go_simp
                              with_reducible rfl
                            rotate_left
                            · simp only [Act.put, List.setIfInBounds_toArray, List.set_cons_zero, List.set_cons_succ, i64_w, i32_w]
                              rfl
                            refine pure_ (i := 6) (N := some 36) (v := ?_) (a' := ?_) #[true, true, true, false, true, true, true, false, false, false, false, false] rfl rfl (any_of HT_.out (by kernel_rfl)) (fun _ _ _ h => h) (Or.inl ⟨by rfl, ?_⟩) ?_ ?_
                            rotate_left
                            · intro w'
                              go_simp
                              with_reducible rfl
                            rotate_left
                            · simp only [Act.put, List.setIfInBounds_toArray, List.set_cons_zero, List.set_cons_succ, i64_w, i32_w]
                              rfl
                            refine pure_ (i := 7) (N := some 37) (v := ?_) (a' := ?_) #[true, true, true, false, true, true, true, true, false, false, false, false] rfl rfl (any_of HT_.out (by kernel_rfl)) (fun _ _ _ h => h) (Or.inl ⟨by rfl, ?_⟩) ?_ ?_
                            rotate_left
                            · intro w'
                              go_simp
                              with_reducible rfl
                            rotate_left
                            · simp only [Act.put, List.setIfInBounds_toArray, List.set_cons_zero, List.set_cons_succ, i64_w, i32_w]
                              rfl
                            refine take_ (i := 3) (N := some 33) (v := ?_) (a' := ?_) #[true, true, true, true, true, true, true, true, false, false, false, false] rfl rfl (take_ofW HT_.out HW_.out (by kernel_rfl)) (fun _ _ _ h => h) (Or.inl ⟨by rfl, ?_⟩) hHeld ?_ ?_
                            rotate_left
                            · rintro w' ⟨s0, s1, s2, s3⟩
                              go_simp
                              with_reducible rfl
                            rotate_left
                            · simp only [Act.put, List.setIfInBounds_toArray, List.set_cons_zero, List.set_cons_succ, i64_w, i32_w]
                              rfl
                            refine take_ (i := 8) (N := some 38) (v := ?_) (a' := ?_) #[true, true, true, true, true, true, true, true, true, false, false, false] rfl rfl (take_ofW HT_.out HW_.out (by kernel_rfl)) (fun _ _ _ h => h) (Or.inl ⟨by rfl, ?_⟩) hHeld ?_ ?_
                            rotate_left
                            · rintro w' ⟨s0, s1, s2, s3⟩
                              go_simp
                              with_reducible rfl
                            rotate_left
                            · simp only [Act.put, List.setIfInBounds_toArray, List.set_cons_zero, List.set_cons_succ, i64_w, i32_w]
                              rfl
                            refine one_ (i := 9) (N := some 39) #[true, true, true, true, true, true, true, true, true, true, false, false] rfl rfl (one_of HT_.out (by kernel_rfl)) (by decide) (fun K hK => ?_)
                            refine goes_ Try.func184 (by kernel_rfl) rfl #[.agg #[.int .i64 ((rd_T114 l0 x10_1).f0), .int .i64 ((rd_T114 l0 x10_1).f1)], .agg #[.int .i64 ((rd_T114 l0 (ji16)).f0), .int .i64 ((rd_T114 l0 (ji16)).f1)]] (by rfl) rfl rfl (by (try simp only [List.map_toArray, List.map_cons, List.map_nil]); first | done | (simp only [hji16]; rfl) | rfl | (simp only [List.length_drop, List.length_take]; rfl)) ?_
                            with_reducible refine (fleet_byShift.calls kj5 ((rd_T114 l0 x10_1).f0) ((rd_T114 l0 x10_1).f1) ((rd_T114 l0 (ji16)).f0) ((rd_T114 l0 (ji16)).f1) t292 _ A19.out).mono ?_
                            rintro e w22 ⟨rfl, hb⟩
                            refine ⟨_, rfl, ?_⟩
                            have n0_ := Aside0.mk (blk_below (g := gb290) (o := .cells #[.int .i64 ((rd_T114 l0 x10_1).f0), .int .i64 ((rd_T114 l0 x10_1).f1)] 114 (0, 0)) (by (with_reducible repeat (first | refine blk_drewN ?_ _ | refine blk_drew ?_ | refine blk_alloc ?_ _)); exact BK290.out) hb)
                            have n1_ := Aside0.mk (below_step (by repeat (first | (with_reducible first | exact HB.out | apply below_alloc | apply pw_below_drewN | apply below_drew1 | refine below_set ?_ GE290.out) | exact HB.out)) hb)
                            clear BK290
                            clear HB
                            have BK290 := n0_
                            have HB := n1_
                            clear n0_ n1_
                            (try clear hb)
                            (try clear hb2)
                            (try clear hk)
                            (try clear hi)
                            refine hK.out _ _ ⟨(blk_cell BK290.out 0).trans rfl, (blk_cell BK290.out 1).trans rfl, ((HB.out.cell (World.block_lt_of_cell? w _ hw291_0)).trans hw291_0), ((HB.out.cell (World.block_lt_of_cell? w _ hw291_1)).trans hw291_1)⟩ (fun hHeld => ?_)
                            clear hK K
                            refine norm_ (a' := ?_) ?_ ?_
                            rotate_left
                            · show Act.put _ (some 39) _ = _
                              simp only [Act.put, List.setIfInBounds_toArray, List.set_cons_zero, List.set_cons_succ, i64_w, i32_w]
                              rfl
                            refine pure_ (i := 10) (N := some 40) (v := ?_) (a' := ?_) #[true, true, true, true, true, true, true, true, true, true, true, false] rfl rfl (any_of HT_.out (by kernel_rfl)) (fun _ _ _ h => h) (Or.inl ⟨by rfl, ?_⟩) ?_ ?_
                            rotate_left
                            · intro w'
                              go_simp
                              with_reducible rfl
                            rotate_left
                            · simp only [Act.put, List.setIfInBounds_toArray, List.set_cons_zero, List.set_cons_succ, i64_w, i32_w]
                              rfl
                            refine pure_ (i := 11) (N := some 41) (v := ?_) (a' := ?_) #[true, true, true, true, true, true, true, true, true, true, true, true] rfl rfl (any_of HT_.out (by kernel_rfl)) (fun _ _ _ h => h) (Or.inl ⟨by rfl, ?_⟩) ?_ ?_
                            rotate_left
                            · intro w'
                              go_simp
                              with_reducible rfl
                            rotate_left
                            · simp only [Act.put, List.setIfInBounds_toArray, List.set_cons_zero, List.set_cons_succ, i64_w, i32_w]
                              rfl
                            refine done_ (done_of HT_.out (by kernel_rfl)) ?_
                            try go_wp2
                            go_ret
                            exact ⟨by first | rfl | (simp [errW_none, errW_some] <;> rfl) | (simp only [← hji16]; first | rfl | (simp [errW_none, errW_some] <;> rfl)) | (simp [*, errW_none, errW_some] <;> rfl), by repeat (first | (with_reducible first | exact HB.out | apply below_alloc | apply pw_below_drewN | apply below_drew1 | refine below_set ?_ GE290.out) | exact HB.out)⟩
                          · rw [if_neg c20] at H
                            have c20b0 : decide (t292 < 0) = false := decide_eq_false c20
                            clear c20
                            have H' := Aside0.mk H
                            clear H
                            try go_wp2
                            have n0_ := Aside0.mk (blk_drew BK290.out)
                            have n1_ := Aside0.mk (below_drew1 HB.out)
                            clear BK290
                            clear HB
                            have BK290 := n0_
                            have HB := n1_
                            clear n0_ n1_
                            have p291 : 0 ≤ ((ji16) : Int) := of_decide_eq_true (by first | (with_reducible assumption) | assumption)
                            have q291 : (ji16) < (l0.length : Int) := of_decide_eq_true (by first | (with_reducible assumption) | assumption)
                            obtain ⟨ad291, e291, hx291_0, hx291_1⟩ := at_T114 HR0.out (ji16) p291 q291
                            have hw291_1 := hx291_1
                            have hw291_0 := hx291_0
                            obtain rfl : ad289 = ad291 := (by injection e291)
                            replace hx291_0 := (HB.out.cell (World.block_lt_of_cell? w _ hx291_0)).trans hx291_0
                            replace hx291_1 := (HB.out.cell (World.block_lt_of_cell? w _ hx291_1)).trans hx291_1
                            replace p291 := eq_true p291
                            replace q291 := eq_true q291
                            refine start_ (n := 12) (S := fun w' => w'.cell? ⟨gb290, 0, none⟩ = some (.int .i64 ((rd_T114 l0 x10_1).f0)) ∧ w'.cell? ⟨gb290, 1, none⟩ = some (.int .i64 ((rd_T114 l0 x10_1).f1)) ∧ w'.cell? (ad289.add (((ji16)).toNat * 2)) = some (.int .i64 ((rd_T114 l0 (ji16)).f0)) ∧ w'.cell? ⟨(ad289.add (((ji16)).toNat * 2)).block, (ad289.add (((ji16)).toNat * 2)).off + 1, none⟩ = some (.int .i64 ((rd_T114 l0 (ji16)).f1))) (ds := []) #[false, false, false, false, false, false, false, false, false, false, false, false] (by kernel_rfl) rfl rfl ⟨(blk_cell BK290.out 0).trans rfl, (blk_cell BK290.out 1).trans rfl, ((HB.out.cell (World.block_lt_of_cell? w _ hw291_0)).trans hw291_0), ((HB.out.cell (World.block_lt_of_cell? w _ hw291_1)).trans hw291_1)⟩ (fun hHeld => ?_); refine with_tabW fleet_CheckShifts.tab8 fleet_CheckShifts.bits8 (fun HT_ HW_ => ?_)
                            generalize wc.drew = w23 at BK290 HB hx291_0 hx291_1 hHeld ⊢
                            refine pure_ (i := 0) (N := some 30) (v := ?_) (a' := ?_) #[true, false, false, false, false, false, false, false, false, false, false, false] rfl rfl (any_of HT_.out (by kernel_rfl)) (fun _ _ _ h => h) (Or.inl ⟨by rfl, ?_⟩) ?_ ?_
                            rotate_left
                            · intro w'
                              go_simp
                              with_reducible rfl
                            rotate_left
                            · simp only [Act.put, List.setIfInBounds_toArray, List.set_cons_zero, List.set_cons_succ, i64_w, i32_w]
                              rfl
                            refine pure_ (i := 1) (N := some 31) (v := ?_) (a' := ?_) #[true, true, false, false, false, false, false, false, false, false, false, false] rfl rfl (any_of HT_.out (by kernel_rfl)) (fun _ _ _ h => h) (Or.inl ⟨by rfl, ?_⟩) ?_ ?_
                            rotate_left
                            · intro w'
                              go_simp
                              with_reducible rfl
                            rotate_left
                            · simp only [Act.put, List.setIfInBounds_toArray, List.set_cons_zero, List.set_cons_succ, i64_w, i32_w]
                              rfl
                            refine pure_ (i := 2) (N := some 32) (v := ?_) (a' := ?_) #[true, true, true, false, false, false, false, false, false, false, false, false] rfl rfl (any_of HT_.out (by kernel_rfl)) (fun _ _ _ h => h) (Or.inl ⟨by rfl, ?_⟩) ?_ ?_
                            rotate_left
                            · intro w'
                              go_simp
                              with_reducible rfl
                            rotate_left
                            · simp only [Act.put, List.setIfInBounds_toArray, List.set_cons_zero, List.set_cons_succ, i64_w, i32_w]
                              rfl
                            refine pure_ (i := 4) (N := some 34) (v := ?_) (a' := ?_) #[true, true, true, false, true, false, false, false, false, false, false, false] rfl rfl (any_of HT_.out (by kernel_rfl)) (fun _ _ _ h => h) (Or.inl ⟨by rfl, ?_⟩) ?_ ?_
                            rotate_left
                            · intro w'
                              go_simp
                              with_reducible rfl
                            rotate_left
                            · simp only [Act.put, List.setIfInBounds_toArray, List.set_cons_zero, List.set_cons_succ, i64_w, i32_w]
                              rfl
                            refine pure_ (i := 5) (N := some 35) (v := ?_) (a' := ?_) #[true, true, true, false, true, true, false, false, false, false, false, false] rfl rfl (any_of HT_.out (by kernel_rfl)) (fun _ _ _ h => h) (Or.inl ⟨by rfl, ?_⟩) ?_ ?_
                            rotate_left
                            · intro w'
                              go_simp
                              with_reducible rfl
                            rotate_left
                            · simp only [Act.put, List.setIfInBounds_toArray, List.set_cons_zero, List.set_cons_succ, i64_w, i32_w]
                              rfl
                            refine pure_ (i := 6) (N := some 36) (v := ?_) (a' := ?_) #[true, true, true, false, true, true, true, false, false, false, false, false] rfl rfl (any_of HT_.out (by kernel_rfl)) (fun _ _ _ h => h) (Or.inl ⟨by rfl, ?_⟩) ?_ ?_
                            rotate_left
                            · intro w'
                              go_simp
                              with_reducible rfl
                            rotate_left
                            · simp only [Act.put, List.setIfInBounds_toArray, List.set_cons_zero, List.set_cons_succ, i64_w, i32_w]
                              rfl
                            refine pure_ (i := 7) (N := some 37) (v := ?_) (a' := ?_) #[true, true, true, false, true, true, true, true, false, false, false, false] rfl rfl (any_of HT_.out (by kernel_rfl)) (fun _ _ _ h => h) (Or.inl ⟨by rfl, ?_⟩) ?_ ?_
                            rotate_left
                            · intro w'
                              go_simp
                              with_reducible rfl
                            rotate_left
                            · simp only [Act.put, List.setIfInBounds_toArray, List.set_cons_zero, List.set_cons_succ, i64_w, i32_w]
                              rfl
                            refine take_ (i := 3) (N := some 33) (v := ?_) (a' := ?_) #[true, true, true, true, true, true, true, true, false, false, false, false] rfl rfl (take_ofW HT_.out HW_.out (by kernel_rfl)) (fun _ _ _ h => h) (Or.inl ⟨by rfl, ?_⟩) hHeld ?_ ?_
                            rotate_left
                            · rintro w' ⟨s0, s1, s2, s3⟩
                              go_simp
                              with_reducible rfl
                            rotate_left
                            · simp only [Act.put, List.setIfInBounds_toArray, List.set_cons_zero, List.set_cons_succ, i64_w, i32_w]
                              rfl
                            refine take_ (i := 8) (N := some 38) (v := ?_) (a' := ?_) #[true, true, true, true, true, true, true, true, true, false, false, false] rfl rfl (take_ofW HT_.out HW_.out (by kernel_rfl)) (fun _ _ _ h => h) (Or.inl ⟨by rfl, ?_⟩) hHeld ?_ ?_
                            rotate_left
                            · rintro w' ⟨s0, s1, s2, s3⟩
                              go_simp
                              with_reducible rfl
                            rotate_left
                            · simp only [Act.put, List.setIfInBounds_toArray, List.set_cons_zero, List.set_cons_succ, i64_w, i32_w]
                              rfl
                            refine one_ (i := 9) (N := some 39) #[true, true, true, true, true, true, true, true, true, true, false, false] rfl rfl (one_of HT_.out (by kernel_rfl)) (by decide) (fun K hK => ?_)
                            refine goes_ Try.func184 (by kernel_rfl) rfl #[.agg #[.int .i64 ((rd_T114 l0 x10_1).f0), .int .i64 ((rd_T114 l0 x10_1).f1)], .agg #[.int .i64 ((rd_T114 l0 (ji16)).f0), .int .i64 ((rd_T114 l0 (ji16)).f1)]] (by rfl) rfl rfl (by (try simp only [List.map_toArray, List.map_cons, List.map_nil]); first | done | (simp only [hji16]; rfl) | rfl | (simp only [List.length_drop, List.length_take]; rfl)) ?_
                            with_reducible refine (fleet_byShift.calls kj5 ((rd_T114 l0 x10_1).f0) ((rd_T114 l0 x10_1).f1) ((rd_T114 l0 (ji16)).f0) ((rd_T114 l0 (ji16)).f1) t292 _ A19.out).mono ?_
                            rintro e w24 ⟨rfl, hb⟩
                            refine ⟨_, rfl, ?_⟩
                            have n0_ := Aside0.mk (blk_below (g := gb290) (o := .cells #[.int .i64 ((rd_T114 l0 x10_1).f0), .int .i64 ((rd_T114 l0 x10_1).f1)] 114 (0, 0)) (by (with_reducible repeat (first | refine blk_drewN ?_ _ | refine blk_drew ?_ | refine blk_alloc ?_ _)); exact BK290.out) hb)
                            have n1_ := Aside0.mk (below_step (by repeat (first | (with_reducible first | exact HB.out | apply below_alloc | apply pw_below_drewN | apply below_drew1 | refine below_set ?_ GE290.out) | exact HB.out)) hb)
                            clear BK290
                            clear HB
                            have BK290 := n0_
                            have HB := n1_
                            clear n0_ n1_
                            (try clear hb)
                            (try clear hb2)
                            (try clear hk)
                            (try clear hi)
                            refine hK.out _ _ ⟨(blk_cell BK290.out 0).trans rfl, (blk_cell BK290.out 1).trans rfl, ((HB.out.cell (World.block_lt_of_cell? w _ hw291_0)).trans hw291_0), ((HB.out.cell (World.block_lt_of_cell? w _ hw291_1)).trans hw291_1)⟩ (fun hHeld => ?_)
                            clear hK K
                            refine norm_ (a' := ?_) ?_ ?_
                            rotate_left
                            · show Act.put _ (some 39) _ = _
                              simp only [Act.put, List.setIfInBounds_toArray, List.set_cons_zero, List.set_cons_succ, i64_w, i32_w]
                              rfl
                            refine pure_ (i := 10) (N := some 40) (v := ?_) (a' := ?_) #[true, true, true, true, true, true, true, true, true, true, true, false] rfl rfl (any_of HT_.out (by kernel_rfl)) (fun _ _ _ h => h) (Or.inl ⟨by rfl, ?_⟩) ?_ ?_
                            rotate_left
                            · intro w'
                              go_simp
                              with_reducible rfl
                            rotate_left
                            · simp only [Act.put, List.setIfInBounds_toArray, List.set_cons_zero, List.set_cons_succ, i64_w, i32_w]
                              rfl
                            refine pure_ (i := 11) (N := some 41) (v := ?_) (a' := ?_) #[true, true, true, true, true, true, true, true, true, true, true, true] rfl rfl (any_of HT_.out (by kernel_rfl)) (fun _ _ _ h => h) (Or.inl ⟨by rfl, ?_⟩) ?_ ?_
                            rotate_left
                            · intro w'
                              go_simp
                              with_reducible rfl
                            rotate_left
                            · simp only [Act.put, List.setIfInBounds_toArray, List.set_cons_zero, List.set_cons_succ, i64_w, i32_w]
                              rfl
                            refine done_ (done_of HT_.out (by kernel_rfl)) ?_
                            try go_wp2
                            go_roundg kj5
                            case measure => have := HK1.out; have := HJ5.out; omega
                            case rel => exact ⟨(wrap64 (x10_1 + 1)), (by first | rfl | (simp; done) | (simp [*]; done)), H', ⟨by have := HK1.out; have := HJ5.out; omega⟩, ⟨by repeat (first | (with_reducible first | exact HB.out | apply below_alloc | apply pw_below_drewN | apply below_drew1 | refine below_set ?_ GE290.out) | exact HB.out)⟩⟩
                        · rw [if_neg c18] at H
                          exact absurd H (by simp)
                      · rw [if_neg c17] at H
                        exact absurd H (by simp)
                    · rw [if_neg c15] at H
                      have c15b0 : decide (0 < x10_1) = false := decide_eq_false c15
                      clear c15
                      have H' := Aside0.mk H
                      clear H
                      try go_wp2
                      have n0_ := Aside0.mk (blk_drew BK290.out)
                      have n1_ := Aside0.mk (below_drew1 HB.out)
                      clear BK290
                      clear HB
                      have BK290 := n0_
                      have HB := n1_
                      clear n0_ n1_
                      refine start_ (n := 12) (S := fun w' => True) (ds := []) #[false, false, false, false, false, false, false, false, false, false, false, false] (by kernel_rfl) rfl rfl trivial (fun hHeld => ?_); refine with_tabW fleet_CheckShifts.tab8 fleet_CheckShifts.bits8 (fun HT_ HW_ => ?_)
                      generalize wc.drew = w25 at BK290 HB hHeld ⊢
                      refine pure_ (i := 0) (N := some 30) (v := ?_) (a' := ?_) #[true, false, false, false, false, false, false, false, false, false, false, false] rfl rfl (any_of HT_.out (by kernel_rfl)) (fun _ _ _ h => h) (Or.inl ⟨by rfl, ?_⟩) ?_ ?_
                      rotate_left
                      · intro w'
                        go_simp
                        with_reducible rfl
                      rotate_left
                      · simp only [Act.put, List.setIfInBounds_toArray, List.set_cons_zero, List.set_cons_succ, i64_w, i32_w]
                        rfl
                      refine pure_ (i := 1) (N := some 31) (v := ?_) (a' := ?_) #[true, true, false, false, false, false, false, false, false, false, false, false] rfl rfl (any_of HT_.out (by kernel_rfl)) (fun _ _ _ h => h) (Or.inl ⟨by rfl, ?_⟩) ?_ ?_
                      rotate_left
                      · intro w'
                        go_simp
                        with_reducible rfl
                      rotate_left
                      · simp only [Act.put, List.setIfInBounds_toArray, List.set_cons_zero, List.set_cons_succ, i64_w, i32_w]
                        rfl
                      refine pure_ (i := 2) (N := some 32) (v := ?_) (a' := ?_) #[true, true, true, false, false, false, false, false, false, false, false, false] rfl rfl (any_of HT_.out (by kernel_rfl)) (fun _ _ _ h => h) (Or.inl ⟨by rfl, ?_⟩) ?_ ?_
                      rotate_left
                      · intro w'
                        go_simp
                        with_reducible rfl
                      rotate_left
                      · simp only [Act.put, List.setIfInBounds_toArray, List.set_cons_zero, List.set_cons_succ, i64_w, i32_w]
                        rfl
                      refine pure_ (i := 3) (N := some 33) (v := undef) (a' := ?_) #[true, true, true, true, false, false, false, false, false, false, false, false] rfl rfl (any_of HT_.out (by kernel_rfl)) (fun _ _ _ h => h) (Or.inr ⟨by rfl, rfl⟩) ?_ ?_
                      rotate_left
                      · simp only [Act.put, List.setIfInBounds_toArray, List.set_cons_zero, List.set_cons_succ, i64_w, i32_w]
                        rfl
                      refine pure_ (i := 4) (N := some 34) (v := undef) (a' := ?_) #[true, true, true, true, true, false, false, false, false, false, false, false] rfl rfl (any_of HT_.out (by kernel_rfl)) (fun _ _ _ h => h) (Or.inr ⟨by rfl, rfl⟩) ?_ ?_
                      rotate_left
                      · simp only [Act.put, List.setIfInBounds_toArray, List.set_cons_zero, List.set_cons_succ, i64_w, i32_w]
                        rfl
                      refine pure_ (i := 5) (N := some 35) (v := undef) (a' := ?_) #[true, true, true, true, true, true, false, false, false, false, false, false] rfl rfl (any_of HT_.out (by kernel_rfl)) (fun _ _ _ h => h) (Or.inr ⟨by rfl, rfl⟩) ?_ ?_
                      rotate_left
                      · simp only [Act.put, List.setIfInBounds_toArray, List.set_cons_zero, List.set_cons_succ, i64_w, i32_w]
                        rfl
                      refine pure_ (i := 6) (N := some 36) (v := undef) (a' := ?_) #[true, true, true, true, true, true, true, false, false, false, false, false] rfl rfl (any_of HT_.out (by kernel_rfl)) (fun _ _ _ h => h) (Or.inr ⟨by rfl, rfl⟩) ?_ ?_
                      rotate_left
                      · simp only [Act.put, List.setIfInBounds_toArray, List.set_cons_zero, List.set_cons_succ, i64_w, i32_w]
                        rfl
                      refine pure_ (i := 7) (N := some 37) (v := undef) (a' := ?_) #[true, true, true, true, true, true, true, true, false, false, false, false] rfl rfl (any_of HT_.out (by kernel_rfl)) (fun _ _ _ h => h) (Or.inr ⟨by rfl, rfl⟩) ?_ ?_
                      rotate_left
                      · simp only [Act.put, List.setIfInBounds_toArray, List.set_cons_zero, List.set_cons_succ, i64_w, i32_w]
                        rfl
                      refine pure_ (i := 8) (N := some 38) (v := undef) (a' := ?_) #[true, true, true, true, true, true, true, true, true, false, false, false] rfl rfl (any_of HT_.out (by kernel_rfl)) (fun _ _ _ h => h) (Or.inr ⟨by rfl, rfl⟩) ?_ ?_
                      rotate_left
                      · simp only [Act.put, List.setIfInBounds_toArray, List.set_cons_zero, List.set_cons_succ, i64_w, i32_w]
                        rfl
                      refine pure_ (i := 9) (N := some 39) (v := undef) (a' := ?_) #[true, true, true, true, true, true, true, true, true, true, false, false] rfl rfl (any_of HT_.out (by kernel_rfl)) (fun _ _ _ h => h) (Or.inr ⟨by rfl, rfl⟩) ?_ ?_
                      rotate_left
                      · simp only [Act.put, List.setIfInBounds_toArray, List.set_cons_zero, List.set_cons_succ, i64_w, i32_w]
                        rfl
                      refine pure_ (i := 10) (N := some 40) (v := undef) (a' := ?_) #[true, true, true, true, true, true, true, true, true, true, true, false] rfl rfl (any_of HT_.out (by kernel_rfl)) (fun _ _ _ h => h) (Or.inr ⟨by rfl, rfl⟩) ?_ ?_
                      rotate_left
                      · simp only [Act.put, List.setIfInBounds_toArray, List.set_cons_zero, List.set_cons_succ, i64_w, i32_w]
                        rfl
                      refine pure_ (i := 11) (N := some 41) (v := ?_) (a' := ?_) #[true, true, true, true, true, true, true, true, true, true, true, true] rfl rfl (any_of HT_.out (by kernel_rfl)) (fun _ _ _ h => h) (Or.inl ⟨by rfl, ?_⟩) ?_ ?_
                      rotate_left
                      · intro w'
                        go_simp
                        with_reducible rfl
                      rotate_left
                      · simp only [Act.put, List.setIfInBounds_toArray, List.set_cons_zero, List.set_cons_succ, i64_w, i32_w]
                        rfl
                      refine done_ (done_of HT_.out (by kernel_rfl)) ?_
                      try go_wp2
                      go_roundg kj5
                      case measure => have := HK1.out; have := HJ5.out; omega
                      case rel => exact ⟨(wrap64 (x10_1 + 1)), (by first | rfl | (simp; done) | (simp [*]; done)), H', ⟨by have := HK1.out; have := HJ5.out; omega⟩, ⟨by repeat (first | (with_reducible first | exact HB.out | apply below_alloc | apply pw_below_drewN | apply below_drew1 | refine below_set ?_ GE290.out) | exact HB.out)⟩⟩
            · rw [if_neg c5] at H
              exact absurd H (by simp)
          · rw [if_neg c4] at H
            exact absurd H (by simp)
        · rw [if_neg c3] at H
          have c3b0 : decide (x10_1 < (l0.length : Int)) = false := decide_eq_false c3
          clear c3
          obtain rfl := Option.some.inj H
          go_wp2
          go_ret
          exact ⟨by first | rfl | (simp [errW_none, errW_some] <;> rfl) | (simp [*, errW_none, errW_some] <;> rfl), by repeat (first | (with_reducible first | exact HB.out | apply below_alloc | apply pw_below_drewN | apply below_drew1) | exact HB.out)⟩

-- NOT PRINTED: function 185 (slices_IndexFunc_int_int)

-- NOT PRINTED: function 142 (fleet_rosters)

-- NOT PRINTED: function 87 (fleet_Drivers)

/-! ### jitlaw2_driven: function 25 (by hand) -/
/-- the first index from j on at which p holds; -1: nowhere. -/
def idxFrom (p : Int → Bool) (xs : List Int) : Nat → Nat → Int
  | 0, _ => -1
  | n + 1, j => if p (xs.getD j 0) then j else idxFrom p xs n (j + 1)

set_option maxHeartbeats 800000 in
set_option maxRecDepth 100000 in
theorem slices_IndexFunc_int.calls (a : Addr) (p : Int → Bool) (A0 : Option Addr) (c0 : Nat) (l0 : List Int) (w : World) (hr0 : Kd.C (Kd.int .i64) w A0 l0.length l0) (hc0 : l0.length ≤ c0)
   (hp : ∀ n x, Calls Try.prog 186 #[.int .i64 x, .pointer (some a)] (w.drewN n) fun e w' => e = .returned (.bool (p x)) ∧ Drawn0 w w') :
    Calls Try.prog 185 #[.slice A0 l0.length c0, .func (.func 186) #[] #[.pointer (some a)]] w fun e w' => e = .returned (.int .i64 (idxFrom p l0 l0.length 0)) ∧ Drawn0 w w' := by
  have HP := Aside0.mk hp; clear hp
  have hm := hr0.2.1
  have HR := Aside0.mk hr0; clear hr0
  go_enter Try.func185, Try.ntmps185
  go_wp2
  go_loopg [5, 8] l0.length (fun gk v5 v8 w' => gk ≤ l0.length ∧ v8 = .int .i64 ((l0.length - gk : Nat) : Int) ∧ Aside0 (idxFrom p l0 gk (l0.length - gk) = idxFrom p l0 l0.length 0) ∧ Drawn0 w w')
  case atStart => exact ⟨Nat.le_refl _, by simp, ⟨by simp⟩, Drawn0.refl _⟩
  case round =>
    obtain ⟨hg, rfl, HA, ⟨m1, rfl⟩⟩ := hrel
    cases gk with
    | zero =>
      go_wp2
      go_ret
      exact ⟨by rw [← HA.out]; rfl, ⟨_, rfl⟩⟩
    | succ k1 =>
      have e1 : l0.length - (k1 + 1) < l0.length := by omega
      generalize hj : l0.length - (k1 + 1) = j at *
      obtain ⟨ad, e, hx⟩ := Kd.at_int HR.out (j : Int) (by omega) (by omega)
      cases e
      rw [Int.toNat_natCast] at hx
      go_wp2_with fail
      refine (HP.out m1 _).mono ?_
      rintro e w2 ⟨rfl, ⟨m2, rfl⟩⟩
      have HA2 := HA.out
      clear HA
      simp only [idxFrom] at HA2
      have hrd : rd l0 (j : Int) = l0.getD j 0 := by simp [rd]
      rw [← hrd] at HA2
      cases hpx : p (rd l0 (j : Int)) with
      | true =>
        rw [hpx, if_pos rfl] at HA2
        have HA := Aside0.mk HA2
        clear HA2 hpx hrd
        go_wp2_with fail
        go_ret

        exact ⟨by rw [← HA.out]; rfl, ⟨_, rfl⟩⟩
      | false =>
        rw [hpx, if_neg (by simp)] at HA2
        have HA := Aside0.mk HA2
        clear HA2 hpx hrd
        go_wp2_with fail
        go_roundg k1
        case measure => omega
        case rel =>
          have e2 : l0.length - k1 = j + 1 := by omega
          rw [e2]
          exact ⟨by omega, by go_num, HA, ⟨_, rfl⟩⟩

theorem idx_lt (p : Int → Bool) (xs : List Int) : ∀ n j, idxFrom p xs n j < 0 ∨ (j : Int) ≤ idxFrom p xs n j ∧ idxFrom p xs n j < (j : Int) + n
  | 0, j => .inl (by simp [idxFrom])
  | n + 1, j => by
    unfold idxFrom
    split
    · right; omega
    · rcases idx_lt p xs n (j + 1) with h | h
      · exact .inl h
      · right; omega
theorem cell2_1 {w : World} {g t : Nat} {u v : Value} (h : w.heap[g]? = some (.cells #[u, v] t (0, 0))) : w.cell? ⟨g, 1, none⟩ = some v := (blk_cell h 1).trans rfl
/-- rosters$1: is a driver free when the shift begins? -/
theorem fleet_rosters_1.calls (b : Nat) (x : S114) (at_ : Int) (w : World) (hb : w.heap[b]? = some (.cells #[.int .i64 x.f0, .int .i64 x.f1] 114 (0, 0))) :
    Calls Try.prog 186 #[.int .i64 at_, .pointer (some ⟨b, 0, none⟩)] w fun e w' => e = .returned (.bool (decide (at_ ≤ x.f0))) ∧ Drawn0 w w' := by
  have hc : w.cell? ⟨b, 0, none⟩ = some (.int .i64 x.f0) := (blk_cell hb 0).trans rfl
  go_enter Try.func186, Try.ntmps186
  go_wp2
  go_ret
  exact ⟨rfl, Drawn0.refl _⟩

def ros (free : List Int) (x : S114) : List Int :=
  if idxFrom (fun t => decide (t ≤ x.f0)) free free.length 0 < 0 then free ++ [x.f1] else free.set (idxFrom (fun t => decide (t ≤ x.f0)) free free.length 0).toNat x.f1
def rosF (l : List S114) : List Int := l.foldl ros []

theorem rosF_step (l : List S114) (j : Nat) (h : j < l.length) : rosF (l.take (j + 1)) = ros (rosF (l.take j)) (l.getD j z114) := by
  unfold rosF
  rw [List.take_succ_eq_append_getElem h, List.foldl_append]
  simp [List.getD_eq_getElem?_getD, h]
set_option maxHeartbeats 800000 in
set_option maxRecDepth 100000 in
theorem fleet_rosters.calls (A0 : Option Addr) (c0 : Nat) (l0 : List S114) (w : World) (hr0 : Kd.C k114 w A0 l0.length l0) (hc0 : l0.length ≤ c0) (hl : l0.length ≤ 1000000) :
    Calls Try.prog 142 #[.slice A0 l0.length c0] w fun e w' => ∃ v, e = .returned (.tuple #[v, .int .i64 ((rosF l0).length : Int)]) ∧ Below w.heap.size w w' := by
  have HR := Aside0.mk hr0; clear hr0
  go_enter Try.func142, Try.ntmps142
  go_wp2
  go_loopg [4, 5, 11] l0.length (fun gk v4 v5 v11 w' => gk ≤ l0.length ∧ v11 = .int .i64 ((l0.length - gk : Nat) : Int) ∧ ∃ out free, Two (Kd.int .i64) (Kd.int .i64) 3 3 w' w.heap.size v4 free v5 out ∧ Aside0 (free = rosF (l0.take (l0.length - gk))) ∧ free.length ≤ l0.length - gk ∧ out.length ≤ l0.length - gk ∧ Below w.heap.size w w')
  case atStart => exact ⟨Nat.le_refl _, by simp, [], [], ⟨Kd.R_nil _ _ _ _ _, Kd.R_nil _ _ _ _ _⟩, ⟨by simp [rosF]⟩, by simp, by simp, Below.refl _ _⟩
  case round =>
    obtain ⟨hg, rfl, out, free, HT, HF, hfl, hol, HB⟩ := hrel
    obtain ⟨Af, cf, rfl, hcf, hCf⟩ := Kd.R_reads HT.one
    cases gk with
    | zero =>
      obtain ⟨Ao, co, rfl⟩ := Kd.R_slice HT.two
      rw [show l0.take (l0.length - 0) = l0 from by simp] at HF
      go_wp2
      go_ret2
      exact ⟨_, by rw [← HF.out]; rfl, HB⟩
    | succ k1 =>
      have e1 : l0.length - (k1 + 1) < l0.length := by omega
      generalize hj : l0.length - (k1 + 1) = j at *
      obtain ⟨ad, e, h0, h1⟩ := at_T114 (Kd.C_below HR.out HB) (j : Int) (by omega) (by omega)
      cases e
      rw [Int.toNat_natCast] at h0 h1
      go_wp2_with fail
      have hbx := heap_alloc_new wr (.cells #[.int .i64 (rd_T114 l0 (j : Int)).f0, .int .i64 (rd_T114 l0 (j : Int)).f1] 114)
      have HT1 := HT.step (below_alloc (Below.refl _ _) (.cells #[.int .i64 (rd_T114 l0 (j : Int)).f0, .int .i64 (rd_T114 l0 (j : Int)).f1] 114))
      have HB1 := below_alloc HB (.cells #[.int .i64 (rd_T114 l0 (j : Int)).f0, .int .i64 (rd_T114 l0 (j : Int)).f1] 114)
      refine (slices_IndexFunc_int.calls _ (fun t => decide (t ≤ (rd_T114 l0 (j : Int)).f0)) _ _ free _ (Kd.C_alloc hCf _) hcf (fun n x => ?hcl)).mono ?_
      case hcl =>
        refine (fleet_rosters_1.calls wr.heap.size (rd_T114 l0 (j : Int)) x _ (by simpa using hbx)).mono ?_
        rintro e w2 ⟨he, hd⟩
        obtain ⟨m, rfl⟩ := hd
        exact ⟨he, ⟨⟨n + m, by rw [World.drewN_drewN]⟩⟩⟩
      rintro e w2 ⟨rfl, hd⟩
      have HT2 := HT1.step hd.below
      have HB2 := below_then HB1 HB1.size hd.below
      have hbx2 : w2.heap[wr.heap.size]? = some (.cells #[.int .i64 (rd_T114 l0 (j : Int)).f0, .int .i64 (rd_T114 l0 (j : Int)).f1] 114 (0, 0)) := by
        obtain ⟨m, rfl⟩ := hd; exact hbx
      clear HT HT1 HB HB1 hbx hd hCf h0 h1
      generalize hk : idxFrom (fun t => decide (t ≤ (rd_T114 l0 (j : Int)).f0)) free free.length 0 = kk at *
      have HK := Aside0.mk hk; clear hk
      have hid := idx_lt (fun t => decide (t ≤ (rd_T114 l0 (j : Int)).f0)) free free.length 0
      rw [HK.out] at hid
      by_cases hneg : kk < 0
      · have hne2 := Kd.R_ne HT2.one hbx2 (by decide)
        go_wp2_with (first | (at_builtin; (with_reducible refine gate_dst (N := 24) rfl ?_); refine Kd.R_append (Kd.int .i64) (w0 := w) w.heap.size rfl (.tmp 22) (.tmp 23) 22 3 (.int .i64 0) 8 rfl Try.underlying22 info3 rfl (by decide) (by decide) (.slice Af free.length cf) free 0 [.int .i64 0] (fun _ => True) (fun _ => False) rfl rfl rfl (fun _ h => h.elim) (fun _ _ => trivial) HT2.one HB2 HB2.size (by omega) ?_; intro v1 w3 hR1 hB3 hg1 ha1; have HT3 := HT2.left hg1 hR1 ha1; have hbx3 := blk_grown hbx2 hg1 hne2; obtain ⟨gf, capf, hv1, hgf, hgl, hcl⟩ := Kd.R_form hR1 (by simp); subst hv1; have hcf2 := Kd.R_celln 0 hR1 (free.length : Int) (by omega) (by first | (simp; done) | (simp; omega)); have hc1 := cell2_1 hbx3; obtain ⟨HT4, HB4, hsz4, hfr⟩ := HT3.put hB3 hB3.size hgf hgl free.length ((rd_T114 l0 (j : Int)).f1); rw [Int.toNat_natCast] at hcf2; have hlen : (free ++ [0]).length = free.length + 1 := (by simp); rw [hlen] at HT4 hfr; have hfz := hcf2.2; have hce := hcf2.1; clear HT2 HB2 hbx2 hR1 hcf2 ha1 hg1 hcl HT3 hB3) | (at_builtin; (with_reducible refine gate_dst (N := 33) rfl ?_); refine Kd.R_append (Kd.int .i64) (w0 := w) w.heap.size rfl (.tmp 30) (.tmp 32) 22 3 (.int .i64 0) 8 rfl Try.underlying22 info3 rfl (by decide) (by decide) u5 out (free.length : Int) [.int .i64 (free.length : Int)] (fun q => some q ≠ (Value.slice (some ⟨gf, 0, none⟩) (free.length + 1) capf).ownBlock) (fun _ => False) rfl (by rw [show (w3.setCell ⟨gf, free.length, none⟩ (.int .i64 ((rd_T114 l0 (j : Int)).f1))).heap.size = w3.heap.size from by simp [World.setCell]]; rfl) rfl (fun _ h => h.elim) hfr HT4.two HB4 hsz4 (by omega) ?_; intro v2 w4 hR2 hB5 hg2 ha2; have HT5 := HT4.right HT4.apart hg2 hR2 rfl; clear HT4 HB4 hR2 hg2 ha2 hfr))
        go_roundg k1
        case measure => omega
        case rel =>
          have e2 : l0.length - k1 = j + 1 := by omega
          rw [e2]
          refine ⟨by omega, by go_num, out ++ [(free.length : Int)], free ++ [(rd_T114 l0 (j : Int)).f1], ?_, ⟨?_⟩, by simp; omega, by simp; omega, hB5⟩
          · have e3 : (free ++ [0]).set free.length ((rd_T114 l0 (j : Int)).f1) = free ++ [(rd_T114 l0 (j : Int)).f1] := by simp
            rw [e3] at HT5
            exact HT5
          · rw [rosF_step l0 j e1, ← HF.out]
            unfold ros
            rw [show l0.getD j z114 = rd_T114 l0 (j : Int) from by simp [rd_T114], HK.out, if_pos hneg]
      · have hk0 : 0 ≤ kk := by omega
        have hk1 : kk < (free.length : Int) := by omega
        obtain ⟨gf, capf, hv1, hgf, hgl, hcl⟩ := Kd.R_form HT2.one (by omega)
        cases hv1
        have hcf2 := Kd.R_celln 0 HT2.one kk hk0 hk1
        have hc1 := cell2_1 hbx2
        obtain ⟨HT4, HB4, hsz4, hfr⟩ := HT2.put HB2 HB2.size hgf hgl kk.toNat ((rd_T114 l0 (j : Int)).f1)
        have hfz := hcf2.2
        have hce := hcf2.1
        clear hcf2 hcl HT2 HB2
        go_wp2_with (first | (at_builtin; (with_reducible refine gate_dst (N := 33) rfl ?_); refine Kd.R_append (Kd.int .i64) (w0 := w) w.heap.size rfl (.tmp 30) (.tmp 32) 22 3 (.int .i64 0) 8 rfl Try.underlying22 info3 rfl (by decide) (by decide) u5 out kk [.int .i64 kk] (fun q => some q ≠ (Value.slice (some ⟨gf, 0, none⟩) free.length cf).ownBlock) (fun _ => False) rfl (by rw [show (w2.setCell ⟨gf, kk.toNat, none⟩ (.int .i64 ((rd_T114 l0 (j : Int)).f1))).heap.size = w2.heap.size from by simp [World.setCell]]; rfl) rfl (fun _ h => h.elim) hfr HT4.two HB4 hsz4 (by omega) ?_; intro v2 w4 hR2 hB5 hg2 ha2; have HT5 := HT4.right HT4.apart hg2 hR2 rfl; clear HT4 HB4 hR2 hg2 ha2 hfr))
        go_roundg k1
        case measure => omega
        case rel =>
          have e2 : l0.length - k1 = j + 1 := by omega
          rw [e2]
          refine ⟨by omega, by go_num, out ++ [kk], free.set kk.toNat ((rd_T114 l0 (j : Int)).f1), HT5, ⟨?_⟩, by simp; omega, by simp; omega, hB5⟩
          rw [rosF_step l0 j e1, ← HF.out]
          unfold ros
          rw [show l0.getD j z114 = rd_T114 l0 (j : Int) from by simp [rd_T114], HK.out, if_neg (by omega)]
set_option maxHeartbeats 800000 in
set_option maxRecDepth 100000 in
theorem fleet_Drivers.calls (k : Nat) (A0 : Option Addr) (c0 : Nat) (l0 : List S114) (w : World) (hr0 : Kd.C k114 w A0 l0.length l0) (hc0 : l0.length ≤ c0) (hl : l0.length ≤ 1000000) (h : fleet_CheckShifts.f k l0 = some 0) :
    Calls Try.prog 87 #[.slice A0 l0.length c0] w fun e w' => e = .returned (.tuple #[.int .i64 ((rosF l0).length : Int), .int .i64 0]) ∧ Below w.heap.size w w' := by
  go_enter Try.func87, Try.ntmps87
  go_wp2_with fail
  refine (fleet_CheckShifts.calls k _ _ l0 0 w hr0 hc0 h).mono ?_
  rintro e w1 ⟨rfl, hB1⟩
  go_wp2_with fail
  refine (fleet_rosters.calls _ _ l0 w1 (Kd.C_below hr0 hB1) hc0 hl).mono ?_
  rintro e w2 ⟨v, rfl, hB2⟩
  go_wp2_with fail
  go_ret2
  exact ⟨rfl, below_then hB1 hB1.size hB2⟩
def jitlaw2_driven.f : Option Bool := some true
set_option maxHeartbeats 800000 in
set_option maxRecDepth 100000 in
theorem jitlaw2_driven.calls (r : Bool) (w : World) (h : jitlaw2_driven.f = some r) :
    Calls Try.prog 25 #[] w fun e w' => e = .returned (.bool r) ∧ Below w.heap.size w w' := by
  obtain rfl : true = r := by simpa [jitlaw2_driven.f] using h
  clear h
  go_enter Try.func25, Try.ntmps25
  go_wp2_with fail
  refine (fleet_Drivers.calls 10 _ _ [⟨0, 5⟩, ⟨3, 9⟩] _ ?hC ?hc ?hl (by kernel_rfl)).mono ?_
  case hC =>
    refine ⟨rfl, by simp, fun _ => ⟨_, rfl, fun j p hj => ?_⟩⟩
    have hb := heap_alloc_new w (.cells #[.int .i64 0, .int .i64 5, .int .i64 3, .int .i64 9] 114)
    match j, hj with
    | 0, hj =>
      cases hj
      refine ⟨_, rfl, k114_mk _ _, fun i u hu => ?_⟩
      match i, hu with
      | 0, hu => cases hu; exact (blk_cell hb 0).trans rfl
      | 1, hu => cases hu; exact (blk_cell hb 1).trans rfl
    | 1, hj =>
      cases hj
      refine ⟨_, rfl, k114_mk _ _, fun i u hu => ?_⟩
      match i, hu with
      | 0, hu => cases hu; exact (blk_cell hb 2).trans rfl
      | 1, hu => cases hu; exact (blk_cell hb 3).trans rfl
  case hc => exact Nat.le_refl _
  case hl => decide
  rintro e w2 ⟨rfl, hB2⟩
  go_wp2
  go_ret
  exact ⟨rfl, below_then (below_alloc (Below.refl _ _) _) (by simp) hB2⟩

-- NOT PRINTED: function 3 (jitlaw2_BatteriesGain)

end Go.Proofs.Ytfphebbfgphldaa.PBatteriesGain

