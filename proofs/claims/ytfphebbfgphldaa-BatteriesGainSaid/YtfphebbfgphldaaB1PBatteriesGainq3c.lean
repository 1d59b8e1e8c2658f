import Derived.Test.YtfphebbfgphldaaB1PBatteriesGainq2
import Derived.Deep.Cut
namespace Go.Proofs.Ytfphebbfgphldaa.PBatteriesGain
open Go.RowKit Go.Proofs.YtfphebbfgphldaaW.PrintWords Go.Proofs.YtfphebbfgphldaaW.PrintLast Go.Proofs.YtfphebbfgphldaaW.PrintMore Go.Proofs.Ytfphebbfgphldaa.MLib 
attribute [local go_sem] max2_int min2_int max_two min_two 
set_option linter.unusedVariables false
set_option linter.unusedSimpArgs false
theorem alloc_le (w : World) (o : Obj) : w.heap.size ≤ (w.alloc o).heap.size := (below_alloc (Below.refl w.heap.size w) o).size
theorem alloc_lt (w : World) (o : Obj) : w.heap.size < (w.alloc o).heap.size := by
  show w.heap.size < (w.heap.push o).size
  simp
theorem grown_cell (w : World) (g i : Nat) (u : Value) : w.grownBy (w.setCell ⟨g, i, none⟩ u) (some g) :=
  ⟨rfl, rfl, rfl, by simp [World.setCell], fun k _ hk => Below.heap_setCell _ _ _ k (fun e => hk (by rw [e]))⟩
theorem put5 {w : World} {g t : Nat} {a0 a1 a2 a3 a4 : Value} (h : w.heap[g]? = some (.cells #[a0, a1, a2, a3, a4] t (0, 0))) (u0 u1 u2 u3 u4 : Value) :
    (((((w.setCell ⟨g, 0, none⟩ u0).setCell ⟨g, 1, none⟩ u1).setCell ⟨g, 2, none⟩ u2).setCell ⟨g, 3, none⟩ u3).setCell ⟨g, 4, none⟩ u4).heap[g]? = some (.cells #[u0, u1, u2, u3, u4] t (0, 0)) ∧
    w.grownBy (((((w.setCell ⟨g, 0, none⟩ u0).setCell ⟨g, 1, none⟩ u1).setCell ⟨g, 2, none⟩ u2).setCell ⟨g, 3, none⟩ u3).setCell ⟨g, 4, none⟩ u4) (some g) :=
  ⟨blk_put (blk_put (blk_put (blk_put (blk_put h 0 u0 rfl) 1 u1 rfl) 2 u2 rfl) 3 u3 rfl) 4 u4 rfl, ((((grown_cell w g 0 u0).trans (grown_cell _ g 1 u1)).trans (grown_cell _ g 2 u2)).trans (grown_cell _ g 3 u3)).trans (grown_cell _ g 4 u4)⟩
theorem put3 {w : World} {g t : Nat} {a0 a1 a2 : Value} (h : w.heap[g]? = some (.cells #[a0, a1, a2] t (0, 0))) (u0 u1 u2 : Value) :
    (((w.setCell ⟨g, 0, none⟩ u0).setCell ⟨g, 1, none⟩ u1).setCell ⟨g, 2, none⟩ u2).heap[g]? = some (.cells #[u0, u1, u2] t (0, 0)) ∧
    w.grownBy (((w.setCell ⟨g, 0, none⟩ u0).setCell ⟨g, 1, none⟩ u1).setCell ⟨g, 2, none⟩ u2) (some g) :=
  ⟨blk_put (blk_put (blk_put h 0 u0 rfl) 1 u1 rfl) 2 u2 rfl, ((grown_cell w g 0 u0).trans (grown_cell _ g 1 u1)).trans (grown_cell _ g 2 u2)⟩
theorem out_lt {x b : Int} (h : x < 0) : outB x 0 b = true := by
  unfold outB
  rw [decide_eq_false (by omega)]
  rfl
theorem out_ge {x b : Int} (h : ¬ x < 0) : outB x 0 b = decide (b < x) := by
  unfold outB
  by_cases hb : b < x
  · rw [decide_eq_false (by omega), decide_eq_true hb]; rfl
  · rw [decide_eq_true (by omega), decide_eq_false hb]; rfl
theorem row1 {α : Type} {d : Kd α} {w : World} {g t : Nat} {cs : List Value} (x : α) (h : w.heap[g]? = some (.cells cs.toArray t (0, 0))) (hk : d.K w x cs) : d.C w (some ⟨g, 0, none⟩) 1 [x] := by
  refine ⟨rfl, by simp, fun _ => ⟨_, rfl, fun j p hj => ?_⟩⟩
  match j, hj with
  | 0, hj =>
    cases hj
    refine ⟨_, by simp [d.K_len hk], hk, fun i u hu => ?_⟩
    rw [Nat.zero_mul, Nat.zero_add, add_plain]
    exact (blk_cell h i).trans (by simpa using hu)
theorem blkC {α : Type} {enc : α → Value} (z : α) {h1 : ∀ x, (enc x).oneCell' = true} {w : World} {g t : Nat} (xs : List α) (hl : xs.length ≤ 9223372036854775807) (h : w.heap[g]? = some (.cells (xs.map enc).toArray t (0, 0))) : Kd.C (Kd.scalar enc h1) w (some ⟨g, 0, none⟩) xs.length xs := by
  refine Kd.C_of_reads (d := z) ⟨rfl, hl, fun _ => ⟨_, rfl, fun j hj => ?_⟩⟩
  rw [add_plain]
  unfold World.cell?
  simp only [h]
  simp [hj]
/-- The first region of a code. -/
def headReg : Code → Option Nat
  | .region n _ _ => some n
  | .seq a _ => headReg a
  | _ => none
/-- A code from the statement on that begins with region n. -/
def fromReg (n : Nat) : Code → Option Code
  | .seq a b => if headReg a = some n then some (.seq a b) else fromReg n b
  | _ => none
noncomputable def tail14 : Code := (Try.f3.body.bind (fromReg 14)).getD .skip
set_option maxHeartbeats 8000000 in
set_option maxRecDepth 100000 in
theorem part14 {u0 u1 u2 u3 u4 u5 u16 u17 u18 u19 u20 u21 u22 u23 u24 u25 u26 u27 u28 u29 u30 u31 u32 u33 u34 u35 u36 u37 u38 u39 u40 u41 u42 u43 u44 u45 u46 u47 u48 u49 u50 u51 u52 u53 u54 u55 u56 u57 u58 u59 u60 u61 u62 u63 u64 u65 u66 u67 u68 u69 u70 u71 u72 u73 u74 u75 u76 u77 u78 u79 u80 u81 u82 u83 u84 u85 u86 u87 u88 u89 u90 u91 u92 u93 u94 u95 u96 u97 u98 u99 u100 u101 u102 u103 u104 u105 u106 u107 u108 u109 u110 u111 u112 u113 u114 u115 u116 u117 u118 u119 u120 u121 u122 u123 u124 u125 u126 u127 u128 u129 u130 u131 u132 u133 u134 u135 u136 u137 u138 u139 u140 u141 u142 u143 u144 u145 u146 u147 u148 u149 u150 u151 u152 u153 u154 u155 u156 u157 u158 u159 u160 u161 u162 u163 u164 : Value} (w W : World) (g6 g7 : Nat) (v : S34) (pv : S37) (lv wt lg ng eg nn en q4 q5 q6 : Int) (HB : Aside0 (Below w.heap.size w W)) (B6 : Aside0 (W.heap[g6]? = some (.cells #[.string v.f0, .int .i64 v.f1, .int .i64 v.f2, .int .i64 v.f3, .int .i64 v.f4] 34))) (B7 : Aside0 (W.heap[g7]? = some (.cells #[.string pv.f0, .int .i64 pv.f1, .int .i64 pv.f2] 37))) (HGC : Aside0 (eg = 0 → jitref2_GainOf.f v.f0 v.f1 v.f2 v.f3 v.f4 pv.f0 pv.f1 pv.f2 lv lg = some ng)) (HGD : Aside0 (eg ≠ 0 → ng = 0)) (HNC : Aside0 (en = 0 → ∃ k, jitref2_NeedsOf.f k v.f0 v.f1 v.f2 v.f3 v.f4 pv.f0 pv.f1 pv.f2 lv wt = some nn)) (HND : Aside0 (en ≠ 0 → nn = 0)) (HE1 : Aside0 (jitlaw2_errs.f 500 [q4, q5] = some eg)) (HE2 : Aside0 (jitlaw2_errs.f 500 [q4, q6] = some en)) (HQ5 : Aside0 ((if outB lg 0 2592000000 = true then (1 : Int) else 0) = q5)) (HQ6 : Aside0 ((if outB wt 0 v.f1 = true then (1 : Int) else 0) = q6)) :
    Code.wp Try.prog tail14 (bodyPost Try.prog Try.f3 fun e w' => e = .returned (.bool true) ∧ Below w.heap.size w w') ⟨#[u0, u1, u2, u3, u4, u5, .pointer (some ⟨g6, 0, none⟩), .pointer (some ⟨g7, 0, none⟩), .int .i64 lv, .int .i64 wt, .int .i64 lg, .int .i64 ng, .int .i64 eg, .int .i64 nn, .int .i64 en, .int .i64 q4, u16, u17, u18, u19, u20, u21, u22, u23, u24, u25, u26, u27, u28, u29, u30, u31, u32, u33, u34, u35, u36, u37, u38, u39, u40, u41, u42, u43, u44, u45, u46, u47, u48, u49, u50, u51, u52, u53, u54, u55, u56, u57, u58, u59, u60, u61, u62, u63, u64, u65, u66, u67, u68, u69, u70, u71, u72, u73, u74, u75, u76, u77, u78, u79, u80, u81, u82, u83, u84, u85, u86, u87, u88, u89, u90, u91, u92, u93, u94, u95, u96, u97, u98, u99, u100, u101, u102, u103, u104, u105, u106, u107, u108, u109, u110, u111, u112, u113, u114, u115, u116, u117, u118, u119, u120, u121, u122, u123, u124, u125, u126, u127, u128, u129, u130, u131, u132, u133, u134, u135, u136, u137, u138, u139, u140, u141, u142, u143, u144, u145, u146, u147, u148, u149, u150, u151, u152, u153, u154, u155, u156, u157, u158, u159, u160, u161, u162, u163, u164], []⟩ W := by
  conv => arg 2; whnf
  dsimp only
  go_upto_region 14 with fail
  go_cut [16, 17] from 20 (fun s16 s17 W => s16 = .int .i64 eg ∧ s17 = .int .i64 en ∧ Below w.heap.size w W ∧ W.heap[g6]? = some (.cells #[.string v.f0, .int .i64 v.f1, .int .i64 v.f2, .int .i64 v.f3, .int .i64 v.f4] 34) ∧ W.heap[g7]? = some (.cells #[.string pv.f0, .int .i64 pv.f1, .int .i64 pv.f2] 37))
  case first =>
    by_cases hg : lg < 0 <;> by_cases hw : wt < 0
    · have HW5 := Aside0.mk ((when_ok _ 1).trans (congrArg some (show (if true = true then (1 : Int) else 0) = q5 from by rw [← HQ5.out, out_lt hg])))
      have hgd : decide (lg < 0) = true := decide_eq_true hg
      have HW6 := Aside0.mk ((when_ok _ 1).trans (congrArg some (show (if true = true then (1 : Int) else 0) = q6 from by rw [← HQ6.out, out_lt hw])))
      have hwd : decide (wt < 0) = true := decide_eq_true hw
      clear hg hw HQ5 HQ6
      go_wp2_with fail
      refine (jitlaw2_when.calls _ 1 q5 _ HW5.out).mono ?_
      rintro e wx ⟨rfl, hd⟩
      have n0 := Aside0.mk (below_step HB.out hd.below)
      have n1 := Aside0.mk (blk_below B6.out hd.below)
      have n2 := Aside0.mk (blk_below B7.out hd.below)
      clear HB B6 B7 hd
      have HB := n0
      have B6 := n1
      have B7 := n2
      clear n0 n1 n2
      go_wp2_with fail
      refine (jitlaw2_errs.calls 500 (some ⟨_, 0, none⟩) 2 [q4, q5] eg _ (lit_C (z := 0) _ 30 [q4, q5] (by simp)) (by simp) HE1.out).mono ?_
      rintro e wy ⟨rfl, hd⟩
      have n0 := Aside0.mk (below_step (below_alloc HB.out _) hd.below)
      have n1 := Aside0.mk (blk_below (blk_alloc B6.out _) hd.below)
      have n2 := Aside0.mk (blk_below (blk_alloc B7.out _) hd.below)
      clear HB B6 B7 hd
      have HB := n0
      have B6 := n1
      have B7 := n2
      clear n0 n1 n2
      have z1 := blk_cell B6.out 1
      simp only [List.getElem?_toArray, List.getElem?_cons_zero, List.getElem?_cons_succ] at z1
      go_wp2_with fail
      clear z1
      refine (jitlaw2_when.calls _ 1 q6 _ HW6.out).mono ?_
      rintro e wx ⟨rfl, hd⟩
      have n0 := Aside0.mk (below_step HB.out hd.below)
      have n1 := Aside0.mk (blk_below B6.out hd.below)
      have n2 := Aside0.mk (blk_below B7.out hd.below)
      clear HB B6 B7 hd
      have HB := n0
      have B6 := n1
      have B7 := n2
      clear n0 n1 n2
      go_wp2_with fail
      refine (jitlaw2_errs.calls 500 (some ⟨_, 0, none⟩) 2 [q4, q6] en _ (lit_C (z := 0) _ 30 [q4, q6] (by simp)) (by simp) HE2.out).mono ?_
      rintro e wy ⟨rfl, hd⟩
      have n0 := Aside0.mk (below_step (below_alloc HB.out _) hd.below)
      have n1 := Aside0.mk (blk_below (blk_alloc B6.out _) hd.below)
      have n2 := Aside0.mk (blk_below (blk_alloc B7.out _) hd.below)
      clear HB B6 B7 hd
      have HB := n0
      have B6 := n1
      have B7 := n2
      clear n0 n1 n2
      go_wp2_with fail
      go_meet
      case rel => exact ⟨rfl, rfl, HB.out, B6.out, B7.out⟩
    · have HW5 := Aside0.mk ((when_ok _ 1).trans (congrArg some (show (if true = true then (1 : Int) else 0) = q5 from by rw [← HQ5.out, out_lt hg])))
      have hgd : decide (lg < 0) = true := decide_eq_true hg
      have HW6 := Aside0.mk ((when_ok _ 1).trans (congrArg some (show (if decide (v.f1 < wt) = true then (1 : Int) else 0) = q6 from by rw [← HQ6.out, out_ge hw])))
      have hwd : decide (wt < 0) = false := decide_eq_false hw
      clear hg hw HQ5 HQ6
      go_wp2_with fail
      refine (jitlaw2_when.calls _ 1 q5 _ HW5.out).mono ?_
      rintro e wx ⟨rfl, hd⟩
      have n0 := Aside0.mk (below_step HB.out hd.below)
      have n1 := Aside0.mk (blk_below B6.out hd.below)
      have n2 := Aside0.mk (blk_below B7.out hd.below)
      clear HB B6 B7 hd
      have HB := n0
      have B6 := n1
      have B7 := n2
      clear n0 n1 n2
      go_wp2_with fail
      refine (jitlaw2_errs.calls 500 (some ⟨_, 0, none⟩) 2 [q4, q5] eg _ (lit_C (z := 0) _ 30 [q4, q5] (by simp)) (by simp) HE1.out).mono ?_
      rintro e wy ⟨rfl, hd⟩
      have n0 := Aside0.mk (below_step (below_alloc HB.out _) hd.below)
      have n1 := Aside0.mk (blk_below (blk_alloc B6.out _) hd.below)
      have n2 := Aside0.mk (blk_below (blk_alloc B7.out _) hd.below)
      clear HB B6 B7 hd
      have HB := n0
      have B6 := n1
      have B7 := n2
      clear n0 n1 n2
      have z1 := blk_cell B6.out 1
      simp only [List.getElem?_toArray, List.getElem?_cons_zero, List.getElem?_cons_succ] at z1
      go_wp2_with fail
      clear z1
      refine (jitlaw2_when.calls _ 1 q6 _ HW6.out).mono ?_
      rintro e wx ⟨rfl, hd⟩
      have n0 := Aside0.mk (below_step HB.out hd.below)
      have n1 := Aside0.mk (blk_below B6.out hd.below)
      have n2 := Aside0.mk (blk_below B7.out hd.below)
      clear HB B6 B7 hd
      have HB := n0
      have B6 := n1
      have B7 := n2
      clear n0 n1 n2
      go_wp2_with fail
      refine (jitlaw2_errs.calls 500 (some ⟨_, 0, none⟩) 2 [q4, q6] en _ (lit_C (z := 0) _ 30 [q4, q6] (by simp)) (by simp) HE2.out).mono ?_
      rintro e wy ⟨rfl, hd⟩
      have n0 := Aside0.mk (below_step (below_alloc HB.out _) hd.below)
      have n1 := Aside0.mk (blk_below (blk_alloc B6.out _) hd.below)
      have n2 := Aside0.mk (blk_below (blk_alloc B7.out _) hd.below)
      clear HB B6 B7 hd
      have HB := n0
      have B6 := n1
      have B7 := n2
      clear n0 n1 n2
      go_wp2_with fail
      go_meet
      case rel => exact ⟨rfl, rfl, HB.out, B6.out, B7.out⟩
    · have HW5 := Aside0.mk ((when_ok _ 1).trans (congrArg some (show (if decide (2592000000 < lg) = true then (1 : Int) else 0) = q5 from by rw [← HQ5.out, out_ge hg])))
      have hgd : decide (lg < 0) = false := decide_eq_false hg
      have HW6 := Aside0.mk ((when_ok _ 1).trans (congrArg some (show (if true = true then (1 : Int) else 0) = q6 from by rw [← HQ6.out, out_lt hw])))
      have hwd : decide (wt < 0) = true := decide_eq_true hw
      clear hg hw HQ5 HQ6
      go_wp2_with fail
      refine (jitlaw2_when.calls _ 1 q5 _ HW5.out).mono ?_
      rintro e wx ⟨rfl, hd⟩
      have n0 := Aside0.mk (below_step HB.out hd.below)
      have n1 := Aside0.mk (blk_below B6.out hd.below)
      have n2 := Aside0.mk (blk_below B7.out hd.below)
      clear HB B6 B7 hd
      have HB := n0
      have B6 := n1
      have B7 := n2
      clear n0 n1 n2
      go_wp2_with fail
      refine (jitlaw2_errs.calls 500 (some ⟨_, 0, none⟩) 2 [q4, q5] eg _ (lit_C (z := 0) _ 30 [q4, q5] (by simp)) (by simp) HE1.out).mono ?_
      rintro e wy ⟨rfl, hd⟩
      have n0 := Aside0.mk (below_step (below_alloc HB.out _) hd.below)
      have n1 := Aside0.mk (blk_below (blk_alloc B6.out _) hd.below)
      have n2 := Aside0.mk (blk_below (blk_alloc B7.out _) hd.below)
      clear HB B6 B7 hd
      have HB := n0
      have B6 := n1
      have B7 := n2
      clear n0 n1 n2
      have z1 := blk_cell B6.out 1
      simp only [List.getElem?_toArray, List.getElem?_cons_zero, List.getElem?_cons_succ] at z1
      go_wp2_with fail
      clear z1
      refine (jitlaw2_when.calls _ 1 q6 _ HW6.out).mono ?_
      rintro e wx ⟨rfl, hd⟩
      have n0 := Aside0.mk (below_step HB.out hd.below)
      have n1 := Aside0.mk (blk_below B6.out hd.below)
      have n2 := Aside0.mk (blk_below B7.out hd.below)
      clear HB B6 B7 hd
      have HB := n0
      have B6 := n1
      have B7 := n2
      clear n0 n1 n2
      go_wp2_with fail
      refine (jitlaw2_errs.calls 500 (some ⟨_, 0, none⟩) 2 [q4, q6] en _ (lit_C (z := 0) _ 30 [q4, q6] (by simp)) (by simp) HE2.out).mono ?_
      rintro e wy ⟨rfl, hd⟩
      have n0 := Aside0.mk (below_step (below_alloc HB.out _) hd.below)
      have n1 := Aside0.mk (blk_below (blk_alloc B6.out _) hd.below)
      have n2 := Aside0.mk (blk_below (blk_alloc B7.out _) hd.below)
      clear HB B6 B7 hd
      have HB := n0
      have B6 := n1
      have B7 := n2
      clear n0 n1 n2
      go_wp2_with fail
      go_meet
      case rel => exact ⟨rfl, rfl, HB.out, B6.out, B7.out⟩
    · have HW5 := Aside0.mk ((when_ok _ 1).trans (congrArg some (show (if decide (2592000000 < lg) = true then (1 : Int) else 0) = q5 from by rw [← HQ5.out, out_ge hg])))
      have hgd : decide (lg < 0) = false := decide_eq_false hg
      have HW6 := Aside0.mk ((when_ok _ 1).trans (congrArg some (show (if decide (v.f1 < wt) = true then (1 : Int) else 0) = q6 from by rw [← HQ6.out, out_ge hw])))
      have hwd : decide (wt < 0) = false := decide_eq_false hw
      clear hg hw HQ5 HQ6
      go_wp2_with fail
      refine (jitlaw2_when.calls _ 1 q5 _ HW5.out).mono ?_
      rintro e wx ⟨rfl, hd⟩
      have n0 := Aside0.mk (below_step HB.out hd.below)
      have n1 := Aside0.mk (blk_below B6.out hd.below)
      have n2 := Aside0.mk (blk_below B7.out hd.below)
      clear HB B6 B7 hd
      have HB := n0
      have B6 := n1
      have B7 := n2
      clear n0 n1 n2
      go_wp2_with fail
      refine (jitlaw2_errs.calls 500 (some ⟨_, 0, none⟩) 2 [q4, q5] eg _ (lit_C (z := 0) _ 30 [q4, q5] (by simp)) (by simp) HE1.out).mono ?_
      rintro e wy ⟨rfl, hd⟩
      have n0 := Aside0.mk (below_step (below_alloc HB.out _) hd.below)
      have n1 := Aside0.mk (blk_below (blk_alloc B6.out _) hd.below)
      have n2 := Aside0.mk (blk_below (blk_alloc B7.out _) hd.below)
      clear HB B6 B7 hd
      have HB := n0
      have B6 := n1
      have B7 := n2
      clear n0 n1 n2
      have z1 := blk_cell B6.out 1
      simp only [List.getElem?_toArray, List.getElem?_cons_zero, List.getElem?_cons_succ] at z1
      go_wp2_with fail
      clear z1
      refine (jitlaw2_when.calls _ 1 q6 _ HW6.out).mono ?_
      rintro e wx ⟨rfl, hd⟩
      have n0 := Aside0.mk (below_step HB.out hd.below)
      have n1 := Aside0.mk (blk_below B6.out hd.below)
      have n2 := Aside0.mk (blk_below B7.out hd.below)
      clear HB B6 B7 hd
      have HB := n0
      have B6 := n1
      have B7 := n2
      clear n0 n1 n2
      go_wp2_with fail
      refine (jitlaw2_errs.calls 500 (some ⟨_, 0, none⟩) 2 [q4, q6] en _ (lit_C (z := 0) _ 30 [q4, q6] (by simp)) (by simp) HE2.out).mono ?_
      rintro e wy ⟨rfl, hd⟩
      have n0 := Aside0.mk (below_step (below_alloc HB.out _) hd.below)
      have n1 := Aside0.mk (blk_below (blk_alloc B6.out _) hd.below)
      have n2 := Aside0.mk (blk_below (blk_alloc B7.out _) hd.below)
      clear HB B6 B7 hd
      have HB := n0
      have B6 := n1
      have B7 := n2
      clear n0 n1 n2
      go_wp2_with fail
      go_meet
      case rel => exact ⟨rfl, rfl, HB.out, B6.out, B7.out⟩
  case rest =>
  clear HB B6 B7 HE1 HE2 HQ5 HQ6
  obtain ⟨rfl, rfl, hB, hb6, hb7⟩ := hcut
  have HB := Aside0.mk hB
  have B6 := Aside0.mk hb6
  have B7 := Aside0.mk hb7
  clear hB hb6 hb7
  go_upto_if 131 with fail
  go_cut [18] from 20 (fun s18 W => s18 = .int .i64 ng ∧ Below w.heap.size w W ∧ W.heap[g6]? = some (.cells #[.string v.f0, .int .i64 v.f1, .int .i64 v.f2, .int .i64 v.f3, .int .i64 v.f4] 34) ∧ W.heap[g7]? = some (.cells #[.string pv.f0, .int .i64 pv.f1, .int .i64 pv.f2] 37))
  case first =>
    by_cases he : eg = 0
    · have z0 := blk_cell B6.out 0
      have z1 := blk_cell B6.out 1
      have z2 := blk_cell B6.out 2
      have z3 := blk_cell B6.out 3
      have z4 := blk_cell B6.out 4
      have y0 := blk_cell B7.out 0
      have y1 := blk_cell B7.out 1
      have y2 := blk_cell B7.out 2
      simp only [List.getElem?_toArray, List.getElem?_cons_zero, List.getElem?_cons_succ] at z0 z1 z2 z3 z4 y0 y1 y2
      have H1 := Aside0.mk (HGC.out he)
      have hb0 : (eg == 0) = true := beq_iff_eq.mpr he
      clear he
      go_wp2_with fail
      refine (jitref2_GainOf.calls _ _ _ _ _ _ _ _ _ _ ng _ H1.out).mono ?_
      rintro e wx ⟨rfl, hd⟩
      clear z0 z1 z2 z3 z4 y0 y1 y2
      go_wp2_with fail
      go_meet
      case rel => exact ⟨rfl, below_step HB.out hd, blk_below B6.out hd, blk_below B7.out hd⟩
    · have h1 := Aside0.mk (HGD.out he)
      have hb0 : (eg == 0) = false := beq_eq_false_iff_ne.mpr he
      clear he
      go_wp2_with fail
      go_meet
      case rel => exact ⟨congrArg _ h1.out.symm, HB.out, B6.out, B7.out⟩
  case rest =>
  clear HB B6 B7 HGC HGD
  obtain ⟨rfl, hB, hb6, hb7⟩ := hcut
  have HB := Aside0.mk hB
  have B6 := Aside0.mk hb6
  have B7 := Aside0.mk hb7
  clear hB hb6 hb7
  go_upto_if 138 with fail
  go_cut [19] from 20 (fun s19 W => s19 = .int .i64 nn ∧ Below w.heap.size w W)
  case first =>
    by_cases he : en = 0
    · have z0 := blk_cell B6.out 0
      have z1 := blk_cell B6.out 1
      have z2 := blk_cell B6.out 2
      have z3 := blk_cell B6.out 3
      have z4 := blk_cell B6.out 4
      have y0 := blk_cell B7.out 0
      have y1 := blk_cell B7.out 1
      have y2 := blk_cell B7.out 2
      simp only [List.getElem?_toArray, List.getElem?_cons_zero, List.getElem?_cons_succ] at z0 z1 z2 z3 z4 y0 y1 y2
      obtain ⟨kk, h1⟩ := HNC.out he
      have H1 := Aside0.mk h1
      have hb0 : (en == 0) = true := beq_iff_eq.mpr he
      clear h1 he
      go_wp2_with fail
      refine (jitref2_NeedsOf.calls kk _ _ _ _ _ _ _ _ _ _ nn _ H1.out).mono ?_
      rintro e wx ⟨rfl, hd⟩
      clear z0 z1 z2 z3 z4 y0 y1 y2
      go_wp2_with fail
      go_meet
      case rel => exact ⟨rfl, below_step HB.out hd⟩
    · have h1 := Aside0.mk (HND.out he)
      have hb0 : (en == 0) = false := beq_eq_false_iff_ne.mpr he
      clear he
      go_wp2_with fail
      go_meet
      case rel => exact ⟨congrArg _ h1.out.symm, HB.out⟩
  case rest =>
  clear HB B6 B7 HNC HND
  obtain ⟨rfl, hB⟩ := hcut
  have HB := Aside0.mk hB
  clear hB
  go_wp2_with fail
  refine (jitlaw2_driven.calls true _ rfl).mono ?_
  rintro e wx ⟨rfl, hd⟩
  go_wp2_with fail
  go_ret
  exact ⟨rfl, below_step HB.out hd⟩
end Go.Proofs.Ytfphebbfgphldaa.PBatteriesGain

