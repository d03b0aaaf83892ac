import Derived.Test.YthoofldinnfpiaaX0
import Derived.Test.YthoofldinnfpiaaX1
import Derived.Test.YthoofldinnfpiaaX28
import Derived.Test.YthoofldinnfpiaaN30
import Derived.Test.YthoofldinnfpiaaNA
import Derived.Test.YthoofldinnfpiaaN40
-- cut out of a printed text by wip/assemble.py: function 39 (culletlaw05_real)
namespace Go.Proofs.Ythoofldinnfpiaa.Q
open Go.RowKit Go.Proofs.YthoofldinnfpiaaW.PrintWords Go.Proofs.YthoofldinnfpiaaW.PrintLast Go.Proofs.YthoofldinnfpiaaW.PrintMore
attribute [local go_sem] max2_int min2_int max_two min_two max_three min_three max_four min_four   -- for this text's walks alone
set_option linter.unusedVariables false
set_option linter.unusedSimpArgs false

/-! ### culletlaw05_real: function 39 -/
def culletlaw05_real.l0 : Nat → List Int → Int → List (S82) → Int → Int → List (S82) → Int → Int → Option ((List (S82)) × Int × Int)
  | 0, _, _, _, _, _, _, _, _ => none
  | k + 1, x1, x6, x491000, x491001, x491002, x493000, x493001, x493002 => if x6 < (x491000.length : Int) then (if 0 ≤ x6 then ((culletlaw05_at.f x1 (wrap64 (4 * x6))).bind fun t495 => ((culletlaw05_pick.f ((rd_T82 x491000 x6).f0.f0) ((rd_T82 x491000 x6).f0.f1) t495).bind fun t496 => ((culletlaw05_exact.f t496).bind fun bt497 => ((culletlaw05_at.f x1 (wrap64 ((wrap64 (4 * x6)) + 1))).bind fun t499 => ((culletlaw05_pick.f ((rd_T82 x491000 x6).f1.f0) ((rd_T82 x491000 x6).f1.f1) t499).bind fun t500 => ((culletlaw05_exact.f t500).bind fun bt501 => ((culletlaw05_at.f x1 (wrap64 ((wrap64 (4 * x6)) + 2))).bind fun t503 => ((culletlaw05_pick.f ((rd_T82 x491000 x6).f3.f0) ((rd_T82 x491000 x6).f3.f1) t503).bind fun t504 => ((culletlaw05_exact.f t504).bind fun bt505 => ((culletlaw05_at.f x1 (wrap64 ((wrap64 (4 * x6)) + 3))).bind fun t507 => ((culletlaw05_pick.f ((rd_T82 x491000 x6).f4.f0) ((rd_T82 x491000 x6).f4.f1) t507).bind fun t508 => ((culletlaw05_exact.f t508).bind fun bt509 => (if x493000.length < 1759218604441 then (culletlaw05_real.l0 k x1 (wrap64 (x6 + 1)) x491000 x491001 x491002 (x493000 ++ [(⟨(⟨bt497.1, bt497.2⟩ : S29), (⟨bt501.1, bt501.2⟩ : S29), (⟨(rd_T82 x491000 x6).f2.f0, (rd_T82 x491000 x6).f2.f1⟩ : S29), (⟨bt505.1, bt505.2⟩ : S29), (⟨bt509.1, bt509.2⟩ : S29)⟩ : S82)]) x493001 x493002) else (none)))))))))))))) else (none)) else (some (x493000, x493001, x493002))
def culletlaw05_real.f (k : Nat) (l0_0 : List (S82)) (a0_1 : Int) (a0_2 : Int) (l1 : List Int) : Option ((List (S82)) × Int × Int) := culletlaw05_real.l0 k l1 0 l0_0 a0_1 a0_2 ([] : List (S82)) a0_1 a0_2
theorem culletlaw05_real.mono_l : ∀ k, (∀ y0 y1 y2 y3 y4 y5 y6 y7, LeO (culletlaw05_real.l0 k y0 y1 y2 y3 y4 y5 y6 y7) (culletlaw05_real.l0 (k + 1) y0 y1 y2 y3 y4 y5 y6 y7))
  | 0 => fun _ _ _ _ _ _ _ _ r h => by simp [culletlaw05_real.l0] at h
  | k + 1 => by
    have ih0 := culletlaw05_real.mono_l k
    · intro y0 y1 y2 y3 y4 y5 y6 y7
      unfold culletlaw05_real.l0
      repeat' first
      | (with_reducible exact ih0 _ _ _ _ _ _ _ _)
      | (with_reducible exact LeO.refl _)
      | (with_reducible exact LeO.none _)
      | (with_reducible refine LeO.ite ?_ ?_)
      | (with_reducible refine LeO.bind ?_ (fun _ => ?_))
      | exact ih0 _ _ _ _ _ _ _ _
      | exact LeO.none _
      | refine LeO.ite ?_ ?_
      | refine LeO.bind ?_ (fun _ => ?_)
theorem culletlaw05_real.mono : ∀ a0 a1 a2 a3 k, LeO (culletlaw05_real.f k a0 a1 a2 a3) (culletlaw05_real.f (k + 1) a0 a1 a2 a3) := by
  intro a0 a1 a2 a3 k
  have ih0 := culletlaw05_real.mono_l k
  unfold culletlaw05_real.f
  repeat' first
      | (with_reducible exact ih0 _ _ _ _ _ _ _ _)
      | (with_reducible exact LeO.refl _)
      | (with_reducible exact LeO.none _)
      | (with_reducible refine LeO.ite ?_ ?_)
      | (with_reducible refine LeO.bind ?_ (fun _ => ?_))
      | exact ih0 _ _ _ _ _ _ _ _
      | exact LeO.none _
      | refine LeO.ite ?_ ?_
      | refine LeO.bind ?_ (fun _ => ?_)
def culletlaw05_real.T6 : Bool × List (List Nat × List Nat) := (true, [([], []), ([0], [0]), ([], []), ([2], [2]), ([], []), ([], []), ([5], [5]), ([4, 6], [4, 6]), ([3, 7, 7], [3, 7]), ([8, 8], [8]), ([], []), ([10], [10]), ([], []), ([], []), ([13], [13]), ([14], [14]), ([12, 15, 9], [12, 15]), ([11, 16, 16], [11, 16]), ([17, 17], [17]), ([], []), ([19], [19]), ([], []), ([21], [21]), ([], []), ([], []), ([24], [24]), ([25], [25]), ([23, 26, 18], [23, 26]), ([22, 27, 27], [22, 27]), ([28, 28], [28]), ([], []), ([30], [30]), ([], []), ([], []), ([33], [33]), ([34], [34]), ([32, 35, 29], [32, 35]), ([31, 36, 36], [31, 36]), ([37, 37], [37]), ([9, 18, 20, 29, 38], [9, 18, 20, 29, 38]), ([39], [39]), ([1, 40, 38], [1, 40]), ([0, 1, 2, 3, 4, 5, 6, 7, 8, 9, 10, 11, 12, 13, 14, 15, 16, 17, 18, 19, 20, 21, 22, 23, 24, 25, 26, 27, 28, 29, 30, 31, 32, 33, 34, 35, 36, 37, 38, 39, 40, 41], []), ([42, 41, 41, 0, 1, 2, 3, 4, 5, 6, 7, 8, 9, 10, 11, 12, 13, 14, 15, 16, 17, 18, 19, 20, 21, 22, 23, 24, 25, 26, 27, 28, 29, 30, 31, 32, 33, 34, 35, 36, 37, 38, 39, 40, 41], [41, 42])])
def culletlaw05_real.B6 : List Nat := [0, 1, 0, 4, 0, 0, 32, 112, 252, 508, 0, 1024, 0, 0, 8192, 24576, 62460, 131068, 262140, 0, 524288, 0, 2097152, 0, 0, 16777216, 50331648, 126353404, 266862588, 535298044, 0, 1073741824, 0, 0, 8589934592, 25769803776, 65496678396, 137437380604, 274876334076, 549755813884, 1099511627772, 2199023255551, 4398046511103, 8796093022207]
theorem culletlaw05_real.tab6 : rtab .any (opsOf Try.f39 6) = culletlaw05_real.T6 := by kernel_rfl
theorem culletlaw05_real.bits6 : waitsOk culletlaw05_real.T6.2 culletlaw05_real.B6 = true := by kernel_rfl
set_option maxHeartbeats 8000000 in
set_option maxRecDepth 100000 in
theorem culletlaw05_real.calls (k : Nat) (A0_0 : Option Addr) (c0_0 : Nat) (l0_0 : List (S82)) (a0_1 : Int) (a0_2 : Int) (A1 : Option Addr) (c1 : Nat) (l1 : List Int) (r1 : List (S82)) (r2 : Int) (r3 : Int) (w : World) (hr0_0 : Kd.C k82 w A0_0 l0_0.length l0_0) (hc0_0 : l0_0.length ≤ c0_0) (hr1 : Kd.C (Kd.int .u8) w A1 l1.length l1) (hc1 : l1.length ≤ c1) (h : culletlaw05_real.f k l0_0 a0_1 a0_2 l1 = some (r1, r2, r3)) :
    Calls Try.prog 39 #[.agg #[.slice A0_0 l0_0.length c0_0, .int .i64 a0_1, .int .i64 a0_2], .slice A1 l1.length c1] w fun e w' => ∃ v0_ : Value, e = .returned (.agg #[v0_, .int .i64 r2, .int .i64 r3]) ∧ Kd.R k82 82 w' w.heap.size (fun _ => True) v0_ r1 ∧ Below w.heap.size w w' := by
  have hu24 := Try.underlying24
  have hu82 := Try.underlying82
  have hu29 := Try.underlying29
  have HR0_0 := Aside0.mk hr0_0
  have HC0_0 := Aside0.mk hc0_0
  clear hr0_0 hc0_0
  have HR1 := Aside0.mk hr1
  have HC1 := Aside0.mk hc1
  clear hr1 hc1
  have HB := Aside0.mk (Below.refl w.heap.size w)
  have H : (culletlaw05_real.l0 k l1 0 l0_0 a0_1 a0_2 ([] : List (S82)) a0_1 a0_2) = some (r1, r2, r3) := h
  clear h
  have H' := Aside0.mk H
  clear H
  go_enter Try.func39, Try.ntmps39
  go_wp2_with (first | ((with_reducible refine gate_dst (N := 2) rfl ?_); refine box_event ?hg (N := 2) ?hd (cs := #[.slice A0_0 l0_0.length c0_0, .int .i64 a0_1, .int .i64 a0_2]) (t := 24) ?hr ?_; (case hd => rfl); (case hg => rfl); (case hr => first | (go_simp; done) | (go_simp; rfl)); intro gb490 hg w3 hbox hb; have n0_ := Aside0.mk (below_step (by repeat (first | (with_reducible first | exact HB.out | apply below_alloc | apply pw_below_drewN | apply below_drew1) | exact HB.out)) hb); have n1_ := Aside0.mk (hbox); have n2_ := Aside0.mk ((by rw [hg]; exact (below_size (by repeat (first | (with_reducible first | exact HB.out | apply below_alloc | apply pw_below_drewN | apply below_drew1) | exact HB.out))) : w.heap.size ≤ gb490)); have n3_ := Aside0.mk ((by rw [hg]; exact (below_size (by repeat (first | (with_reducible first | exact HB.out | apply below_alloc | apply pw_below_drewN | apply below_drew1) | exact HB.out))) : w.heap.size ≤ gb490)); clear HB; have HB := n0_; have BK490 := n1_; have GW490 := n2_; have GE490 := n3_; clear n0_ n1_ n2_ n3_; clear hb hbox hg) | ((with_reducible refine gate_dst (N := 4) rfl ?_); refine box_event ?hg (N := 4) ?hd (cs := #[.slice none 0 0, .int .i64 0, .int .i64 0]) (t := 24) ?hr ?_; (case hd => rfl); (case hg => rfl); (case hr => first | (go_simp; done) | (go_simp; rfl)); intro gb491 hg w4 hbox hb; have n0_ := Aside0.mk (blk_below (g := gb490) (o := .cells #[.slice A0_0 l0_0.length c0_0, .int .i64 a0_1, .int .i64 a0_2] 24 (0, 0)) (by (with_reducible repeat (first | refine blk_drewN ?_ _ | refine blk_drew ?_ | refine blk_alloc ?_ _)); exact BK490.out) hb); have n1_ := Aside0.mk (below_step (by repeat (first | (with_reducible first | exact HB.out | apply below_alloc | apply pw_below_drewN | apply below_drew1 | refine below_set ?_ GE490.out) | exact HB.out)) hb); have n2_ := Aside0.mk (hbox); have n3_ := Aside0.mk ((by rw [hg]; exact (below_size (by repeat (first | (with_reducible first | exact HB.out | apply below_alloc | apply pw_below_drewN | apply below_drew1 | refine below_set ?_ GE490.out) | exact HB.out))) : w.heap.size ≤ gb491)); have n4_ := Aside0.mk ((by rw [hg]; exact (below_size (by repeat (first | (with_reducible first | exact HB.out | apply below_alloc | apply pw_below_drewN | apply below_drew1 | refine below_set ?_ GE490.out) | exact HB.out))) : w.heap.size ≤ gb491)); have n5_ := Aside0.mk ((by rw [hg]; exact Nat.ne_of_lt (blk_lt (g := gb490) (o := .cells #[.slice A0_0 l0_0.length c0_0, .int .i64 a0_1, .int .i64 a0_2] 24 (0, 0)) (by (with_reducible repeat (first | refine blk_drewN ?_ _ | refine blk_drew ?_ | refine blk_alloc ?_ _)); exact BK490.out)) : gb490 ≠ gb491)); have n6_ := Aside0.mk ((by rw [hg]; exact Nat.ne_of_gt (blk_lt (g := gb490) (o := .cells #[.slice A0_0 l0_0.length c0_0, .int .i64 a0_1, .int .i64 a0_2] 24 (0, 0)) (by (with_reducible repeat (first | refine blk_drewN ?_ _ | refine blk_drew ?_ | refine blk_alloc ?_ _)); exact BK490.out)) : gb491 ≠ gb490)); clear BK490; clear HB; have BK490 := n0_; have HB := n1_; have BK491 := n2_; have GW491 := n3_; have GE491 := n4_; have NB490_491 := n5_; have NB491_490 := n6_; clear n0_ n1_ n2_ n3_ n4_ n5_ n6_; clear hb hbox hg; have hnb5 := NB490_491.out; have hnc5 := NB491_490.out; have hcz6_0 : w4.cell? ⟨gb490, 0, none⟩ = some (.slice A0_0 l0_0.length c0_0) := (blk_cell BK490.out 0).trans rfl; have hcz6_1 : w4.cell? ⟨gb490, 1, none⟩ = some (.int .i64 a0_1) := (blk_cell BK490.out 1).trans rfl; have hcz6_2 : w4.cell? ⟨gb490, 2, none⟩ = some (.int .i64 a0_2) := (blk_cell BK490.out 2).trans rfl; have hfz6_0 := blk_frozen BK490.out 0; have hfz6_1 := blk_frozen BK490.out 1; have hfz6_2 := blk_frozen BK490.out 2) | ((with_reducible refine gate_dst (N := 5) rfl ?_); refine box_event ?hg (N := 5) ?hd (cs := #[.slice none 0 0, .int .i64 0, .int .i64 0]) (t := 24) ?hr ?_; (case hd => rfl); (case hg => rfl); (case hr => first | (go_simp; done) | (go_simp; rfl)); intro gb492 hg w7 hbox hb; have n0_ := Aside0.mk (blk_below (g := gb490) (o := .cells #[.slice A0_0 l0_0.length c0_0, .int .i64 a0_1, .int .i64 a0_2] 24 (0, 0)) (by (with_reducible repeat (first | refine blk_drewN ?_ _ | refine blk_drew ?_ | refine blk_alloc ?_ _)); exact BK490.out) hb); have n1_ := Aside0.mk (blk_below (g := gb491) (o := .cells #[.slice none 0 0, .int .i64 0, .int .i64 0] 24 (0, 0)) (by (with_reducible repeat (first | refine blk_drewN ?_ _ | refine blk_drew ?_ | refine blk_alloc ?_ _)); exact BK491.out) hb); have n2_ := Aside0.mk (below_step (by repeat (first | (with_reducible first | exact HB.out | apply below_alloc | apply pw_below_drewN | apply below_drew1 | refine below_set ?_ GE490.out | refine below_set ?_ GE491.out) | exact HB.out)) hb); have n3_ := Aside0.mk (hbox); have n4_ := Aside0.mk ((by rw [hg]; exact (below_size (by repeat (first | (with_reducible first | exact HB.out | apply below_alloc | apply pw_below_drewN | apply below_drew1 | refine below_set ?_ GE490.out | refine below_set ?_ GE491.out) | exact HB.out))) : w.heap.size ≤ gb492)); have n5_ := Aside0.mk ((by rw [hg]; exact (below_size (by repeat (first | (with_reducible first | exact HB.out | apply below_alloc | apply pw_below_drewN | apply below_drew1 | refine below_set ?_ GE490.out | refine below_set ?_ GE491.out) | exact HB.out))) : w.heap.size ≤ gb492)); have n6_ := Aside0.mk ((by rw [hg]; exact Nat.ne_of_lt (blk_lt (g := gb490) (o := .cells #[.slice A0_0 l0_0.length c0_0, .int .i64 a0_1, .int .i64 a0_2] 24 (0, 0)) (by (with_reducible repeat (first | refine blk_drewN ?_ _ | refine blk_drew ?_ | refine blk_alloc ?_ _)); exact BK490.out)) : gb490 ≠ gb492)); have n7_ := Aside0.mk ((by rw [hg]; exact Nat.ne_of_gt (blk_lt (g := gb490) (o := .cells #[.slice A0_0 l0_0.length c0_0, .int .i64 a0_1, .int .i64 a0_2] 24 (0, 0)) (by (with_reducible repeat (first | refine blk_drewN ?_ _ | refine blk_drew ?_ | refine blk_alloc ?_ _)); exact BK490.out)) : gb492 ≠ gb490)); have n8_ := Aside0.mk ((by rw [hg]; exact Nat.ne_of_lt (blk_lt (g := gb491) (o := .cells #[.slice none 0 0, .int .i64 0, .int .i64 0] 24 (0, 0)) (by (with_reducible repeat (first | refine blk_drewN ?_ _ | refine blk_drew ?_ | refine blk_alloc ?_ _)); exact BK491.out)) : gb491 ≠ gb492)); have n9_ := Aside0.mk ((by rw [hg]; exact Nat.ne_of_gt (blk_lt (g := gb491) (o := .cells #[.slice none 0 0, .int .i64 0, .int .i64 0] 24 (0, 0)) (by (with_reducible repeat (first | refine blk_drewN ?_ _ | refine blk_drew ?_ | refine blk_alloc ?_ _)); exact BK491.out)) : gb492 ≠ gb491)); clear BK490; clear BK491; clear HB; have BK490 := n0_; have BK491 := n1_; have HB := n2_; have BK492 := n3_; have GW492 := n4_; have GE492 := n5_; have NB490_492 := n6_; have NB492_490 := n7_; have NB491_492 := n8_; have NB492_491 := n9_; clear n0_ n1_ n2_ n3_ n4_ n5_ n6_ n7_ n8_ n9_; clear hb hbox hg; have hnb8 := NB492_490.out; have hnc8 := NB490_492.out; have hnb9 := NB492_491.out; have hnc9 := NB491_492.out; have hcz10_0 : w7.cell? ⟨gb492, 0, none⟩ = some (.slice none 0 0) := (blk_cell BK492.out 0).trans rfl; have hcz10_1 : w7.cell? ⟨gb492, 1, none⟩ = some (.int .i64 0) := (blk_cell BK492.out 1).trans rfl; have hcz10_2 : w7.cell? ⟨gb492, 2, none⟩ = some (.int .i64 0) := (blk_cell BK492.out 2).trans rfl; have hfz10_0 := blk_frozen BK492.out 0; have hfz10_1 := blk_frozen BK492.out 1; have hfz10_2 := blk_frozen BK492.out 2))
  go_loopg [6] k (fun kq v6 w' => ∃ (x6_1 : Int) (x493000_1 : List (S82)) (u493000 : Value), v6 = .int .i64 x6_1 ∧ Aside0 (culletlaw05_real.l0 kq l1 x6_1 l0_0 a0_1 a0_2 x493000_1 a0_1 a0_2 = some (r1, r2, r3)) ∧ Aside0 (kq ≤ k) ∧ Aside0 (Kd.R k82 82 w' w.heap.size (fun _ => True) u493000 x493000_1) ∧ Aside0 (w'.heap[gb490]? = some (.cells #[(.slice A0_0 l0_0.length c0_0), .int .i64 a0_1, .int .i64 a0_2] 24 (0, 0))) ∧ Aside0 (w'.heap[gb491]? = some (.cells #[(.slice none 0 0), .int .i64 0, .int .i64 0] 24 (0, 0))) ∧ Aside0 (w'.heap[gb492]? = some (.cells #[u493000, .int .i64 a0_1, .int .i64 a0_2] 24 (0, 0))) ∧ Aside0 (Below w.heap.size w w'))
  case atStart => exact ⟨(0), (([] : List (S82))), (.slice none 0 0), (by first | rfl | (simp; done) | (simp [*]; done)), H', ⟨Nat.le_refl _⟩, ⟨by first | exact Kd.R_nil _ _ _ _ _ | exact Kd.N_nil _ _ _ _ _ | exact Kd.V_nil _ _ _ _ _ | exact Kd.Q_nil _ _ _ _ _ | exact Kd.S_nil _ _ _ _ _⟩, ⟨by (with_reducible repeat (first | refine blk_drewN ?_ _ | refine blk_drew ?_ | refine blk_alloc ?_ _)); refine blk_far ?_ NB490_492.out _; (with_reducible repeat (first | refine blk_drewN ?_ _ | refine blk_drew ?_ | refine blk_alloc ?_ _)); refine blk_far ?_ NB490_492.out _; (with_reducible repeat (first | refine blk_drewN ?_ _ | refine blk_drew ?_ | refine blk_alloc ?_ _)); refine blk_far ?_ NB490_492.out _; (with_reducible repeat (first | refine blk_drewN ?_ _ | refine blk_drew ?_ | refine blk_alloc ?_ _)); exact BK490.out⟩, ⟨by (with_reducible repeat (first | refine blk_drewN ?_ _ | refine blk_drew ?_ | refine blk_alloc ?_ _)); refine blk_far ?_ NB491_492.out _; (with_reducible repeat (first | refine blk_drewN ?_ _ | refine blk_drew ?_ | refine blk_alloc ?_ _)); refine blk_far ?_ NB491_492.out _; (with_reducible repeat (first | refine blk_drewN ?_ _ | refine blk_drew ?_ | refine blk_alloc ?_ _)); refine blk_far ?_ NB491_492.out _; (with_reducible repeat (first | refine blk_drewN ?_ _ | refine blk_drew ?_ | refine blk_alloc ?_ _)); exact BK491.out⟩, ⟨by (with_reducible repeat (first | refine blk_drewN ?_ _ | refine blk_drew ?_ | refine blk_alloc ?_ _)); refine blk_put (cs := #[.slice none 0 0, .int .i64 a0_1, .int .i64 0]) ?_ 2 _ rfl; (with_reducible repeat (first | refine blk_drewN ?_ _ | refine blk_drew ?_ | refine blk_alloc ?_ _)); refine blk_put (cs := #[.slice none 0 0, .int .i64 0, .int .i64 0]) ?_ 1 _ rfl; (with_reducible repeat (first | refine blk_drewN ?_ _ | refine blk_drew ?_ | refine blk_alloc ?_ _)); refine blk_put (cs := #[.slice none 0 0, .int .i64 0, .int .i64 0]) ?_ 0 _ rfl; (with_reducible repeat (first | refine blk_drewN ?_ _ | refine blk_drew ?_ | refine blk_alloc ?_ _)); exact BK492.out⟩, ⟨by repeat (first | (with_reducible first | exact HB.out | apply below_alloc | apply pw_below_drewN | apply below_drew1 | refine below_set ?_ GE490.out | refine below_set ?_ GE491.out | refine below_set ?_ GE492.out) | exact HB.out)⟩⟩
  case round =>
    clear H'
    try clear c1
    try clear p2
    try clear c3
    try clear c5
    try clear c8
    try clear c9
    try clear hcz10_0
    try clear hcz10_1
    try clear hcz10_2
    try clear hcz6_0
    try clear hcz6_1
    try clear hcz6_2
    try clear hfz10_0
    try clear hfz10_1
    try clear hfz10_2
    try clear hfz6_0
    try clear hfz6_1
    try clear hfz6_2
    obtain ⟨x6_1, x493000_1, u493000, rfl, HA, HK1, HO_493000, BK490, BK491, BK492, HB⟩ := hrel
    cases gk with
    | zero => exact absurd HA.out (by simp [culletlaw05_real.l0])
    | succ k1 =>
      have H := HA.out
      clear HA
      simp only [culletlaw05_real.l0] at H
      by_cases c11 : x6_1 < (l0_0.length : Int)
      · rw [if_pos c11] at H
        have c11b0 : decide (x6_1 < (l0_0.length : Int)) = true := decide_eq_true c11
        clear c11
        by_cases c12 : 0 ≤ x6_1
        · rw [if_pos c12] at H
          have c12b0 : decide (0 ≤ x6_1) = true := decide_eq_true c12
          clear c12
          replace H := Option.bind_eq_some_iff.mp H
          obtain ⟨t495, A130, H⟩ := H
          replace H : ((culletlaw05_pick.f ((rd_T82 l0_0 x6_1).f0.f0) ((rd_T82 l0_0 x6_1).f0.f1) t495).bind fun t496 => ((culletlaw05_exact.f t496).bind fun bt497 => ((culletlaw05_at.f l1 (wrap64 ((wrap64 (4 * x6_1)) + 1))).bind fun t499 => ((culletlaw05_pick.f ((rd_T82 l0_0 x6_1).f1.f0) ((rd_T82 l0_0 x6_1).f1.f1) t499).bind fun t500 => ((culletlaw05_exact.f t500).bind fun bt501 => ((culletlaw05_at.f l1 (wrap64 ((wrap64 (4 * x6_1)) + 2))).bind fun t503 => ((culletlaw05_pick.f ((rd_T82 l0_0 x6_1).f3.f0) ((rd_T82 l0_0 x6_1).f3.f1) t503).bind fun t504 => ((culletlaw05_exact.f t504).bind fun bt505 => ((culletlaw05_at.f l1 (wrap64 ((wrap64 (4 * x6_1)) + 3))).bind fun t507 => ((culletlaw05_pick.f ((rd_T82 l0_0 x6_1).f4.f0) ((rd_T82 l0_0 x6_1).f4.f1) t507).bind fun t508 => ((culletlaw05_exact.f t508).bind fun bt509 => (if x493000_1.length < 1759218604441 then (culletlaw05_real.l0 k1 l1 (wrap64 (x6_1 + 1)) l0_0 a0_1 a0_2 (x493000_1 ++ [(⟨(⟨bt497.1, bt497.2⟩ : S29), (⟨bt501.1, bt501.2⟩ : S29), (⟨(rd_T82 l0_0 x6_1).f2.f0, (rd_T82 l0_0 x6_1).f2.f1⟩ : S29), (⟨bt505.1, bt505.2⟩ : S29), (⟨bt509.1, bt509.2⟩ : S29)⟩ : S82)]) a0_1 a0_2) else (none))))))))))))) = some (r1, r2, r3) := H
          have A13 := Aside0.mk A130
          clear A130
          replace H := Option.bind_eq_some_iff.mp H
          obtain ⟨t496, A140, H⟩ := H
          replace H : ((culletlaw05_exact.f t496).bind fun bt497 => ((culletlaw05_at.f l1 (wrap64 ((wrap64 (4 * x6_1)) + 1))).bind fun t499 => ((culletlaw05_pick.f ((rd_T82 l0_0 x6_1).f1.f0) ((rd_T82 l0_0 x6_1).f1.f1) t499).bind fun t500 => ((culletlaw05_exact.f t500).bind fun bt501 => ((culletlaw05_at.f l1 (wrap64 ((wrap64 (4 * x6_1)) + 2))).bind fun t503 => ((culletlaw05_pick.f ((rd_T82 l0_0 x6_1).f3.f0) ((rd_T82 l0_0 x6_1).f3.f1) t503).bind fun t504 => ((culletlaw05_exact.f t504).bind fun bt505 => ((culletlaw05_at.f l1 (wrap64 ((wrap64 (4 * x6_1)) + 3))).bind fun t507 => ((culletlaw05_pick.f ((rd_T82 l0_0 x6_1).f4.f0) ((rd_T82 l0_0 x6_1).f4.f1) t507).bind fun t508 => ((culletlaw05_exact.f t508).bind fun bt509 => (if x493000_1.length < 1759218604441 then (culletlaw05_real.l0 k1 l1 (wrap64 (x6_1 + 1)) l0_0 a0_1 a0_2 (x493000_1 ++ [(⟨(⟨bt497.1, bt497.2⟩ : S29), (⟨bt501.1, bt501.2⟩ : S29), (⟨(rd_T82 l0_0 x6_1).f2.f0, (rd_T82 l0_0 x6_1).f2.f1⟩ : S29), (⟨bt505.1, bt505.2⟩ : S29), (⟨bt509.1, bt509.2⟩ : S29)⟩ : S82)]) a0_1 a0_2) else (none)))))))))))) = some (r1, r2, r3) := H
          have A14 := Aside0.mk A140
          clear A140
          replace H := Option.bind_eq_some_iff.mp H
          obtain ⟨⟨t497, t498⟩, A150, H⟩ := H
          replace H : ((culletlaw05_at.f l1 (wrap64 ((wrap64 (4 * x6_1)) + 1))).bind fun t499 => ((culletlaw05_pick.f ((rd_T82 l0_0 x6_1).f1.f0) ((rd_T82 l0_0 x6_1).f1.f1) t499).bind fun t500 => ((culletlaw05_exact.f t500).bind fun bt501 => ((culletlaw05_at.f l1 (wrap64 ((wrap64 (4 * x6_1)) + 2))).bind fun t503 => ((culletlaw05_pick.f ((rd_T82 l0_0 x6_1).f3.f0) ((rd_T82 l0_0 x6_1).f3.f1) t503).bind fun t504 => ((culletlaw05_exact.f t504).bind fun bt505 => ((culletlaw05_at.f l1 (wrap64 ((wrap64 (4 * x6_1)) + 3))).bind fun t507 => ((culletlaw05_pick.f ((rd_T82 l0_0 x6_1).f4.f0) ((rd_T82 l0_0 x6_1).f4.f1) t507).bind fun t508 => ((culletlaw05_exact.f t508).bind fun bt509 => (if x493000_1.length < 1759218604441 then (culletlaw05_real.l0 k1 l1 (wrap64 (x6_1 + 1)) l0_0 a0_1 a0_2 (x493000_1 ++ [(⟨(⟨t497, t498⟩ : S29), (⟨bt501.1, bt501.2⟩ : S29), (⟨(rd_T82 l0_0 x6_1).f2.f0, (rd_T82 l0_0 x6_1).f2.f1⟩ : S29), (⟨bt505.1, bt505.2⟩ : S29), (⟨bt509.1, bt509.2⟩ : S29)⟩ : S82)]) a0_1 a0_2) else (none))))))))))) = some (r1, r2, r3) := H
          have A15 := Aside0.mk A150
          clear A150
          replace H := Option.bind_eq_some_iff.mp H
          obtain ⟨t499, A160, H⟩ := H
          replace H : ((culletlaw05_pick.f ((rd_T82 l0_0 x6_1).f1.f0) ((rd_T82 l0_0 x6_1).f1.f1) t499).bind fun t500 => ((culletlaw05_exact.f t500).bind fun bt501 => ((culletlaw05_at.f l1 (wrap64 ((wrap64 (4 * x6_1)) + 2))).bind fun t503 => ((culletlaw05_pick.f ((rd_T82 l0_0 x6_1).f3.f0) ((rd_T82 l0_0 x6_1).f3.f1) t503).bind fun t504 => ((culletlaw05_exact.f t504).bind fun bt505 => ((culletlaw05_at.f l1 (wrap64 ((wrap64 (4 * x6_1)) + 3))).bind fun t507 => ((culletlaw05_pick.f ((rd_T82 l0_0 x6_1).f4.f0) ((rd_T82 l0_0 x6_1).f4.f1) t507).bind fun t508 => ((culletlaw05_exact.f t508).bind fun bt509 => (if x493000_1.length < 1759218604441 then (culletlaw05_real.l0 k1 l1 (wrap64 (x6_1 + 1)) l0_0 a0_1 a0_2 (x493000_1 ++ [(⟨(⟨t497, t498⟩ : S29), (⟨bt501.1, bt501.2⟩ : S29), (⟨(rd_T82 l0_0 x6_1).f2.f0, (rd_T82 l0_0 x6_1).f2.f1⟩ : S29), (⟨bt505.1, bt505.2⟩ : S29), (⟨bt509.1, bt509.2⟩ : S29)⟩ : S82)]) a0_1 a0_2) else (none)))))))))) = some (r1, r2, r3) := H
          have A16 := Aside0.mk A160
          clear A160
          replace H := Option.bind_eq_some_iff.mp H
          obtain ⟨t500, A170, H⟩ := H
          replace H : ((culletlaw05_exact.f t500).bind fun bt501 => ((culletlaw05_at.f l1 (wrap64 ((wrap64 (4 * x6_1)) + 2))).bind fun t503 => ((culletlaw05_pick.f ((rd_T82 l0_0 x6_1).f3.f0) ((rd_T82 l0_0 x6_1).f3.f1) t503).bind fun t504 => ((culletlaw05_exact.f t504).bind fun bt505 => ((culletlaw05_at.f l1 (wrap64 ((wrap64 (4 * x6_1)) + 3))).bind fun t507 => ((culletlaw05_pick.f ((rd_T82 l0_0 x6_1).f4.f0) ((rd_T82 l0_0 x6_1).f4.f1) t507).bind fun t508 => ((culletlaw05_exact.f t508).bind fun bt509 => (if x493000_1.length < 1759218604441 then (culletlaw05_real.l0 k1 l1 (wrap64 (x6_1 + 1)) l0_0 a0_1 a0_2 (x493000_1 ++ [(⟨(⟨t497, t498⟩ : S29), (⟨bt501.1, bt501.2⟩ : S29), (⟨(rd_T82 l0_0 x6_1).f2.f0, (rd_T82 l0_0 x6_1).f2.f1⟩ : S29), (⟨bt505.1, bt505.2⟩ : S29), (⟨bt509.1, bt509.2⟩ : S29)⟩ : S82)]) a0_1 a0_2) else (none))))))))) = some (r1, r2, r3) := H
          have A17 := Aside0.mk A170
          clear A170
          replace H := Option.bind_eq_some_iff.mp H
          obtain ⟨⟨t501, t502⟩, A180, H⟩ := H
          replace H : ((culletlaw05_at.f l1 (wrap64 ((wrap64 (4 * x6_1)) + 2))).bind fun t503 => ((culletlaw05_pick.f ((rd_T82 l0_0 x6_1).f3.f0) ((rd_T82 l0_0 x6_1).f3.f1) t503).bind fun t504 => ((culletlaw05_exact.f t504).bind fun bt505 => ((culletlaw05_at.f l1 (wrap64 ((wrap64 (4 * x6_1)) + 3))).bind fun t507 => ((culletlaw05_pick.f ((rd_T82 l0_0 x6_1).f4.f0) ((rd_T82 l0_0 x6_1).f4.f1) t507).bind fun t508 => ((culletlaw05_exact.f t508).bind fun bt509 => (if x493000_1.length < 1759218604441 then (culletlaw05_real.l0 k1 l1 (wrap64 (x6_1 + 1)) l0_0 a0_1 a0_2 (x493000_1 ++ [(⟨(⟨t497, t498⟩ : S29), (⟨t501, t502⟩ : S29), (⟨(rd_T82 l0_0 x6_1).f2.f0, (rd_T82 l0_0 x6_1).f2.f1⟩ : S29), (⟨bt505.1, bt505.2⟩ : S29), (⟨bt509.1, bt509.2⟩ : S29)⟩ : S82)]) a0_1 a0_2) else (none)))))))) = some (r1, r2, r3) := H
          have A18 := Aside0.mk A180
          clear A180
          replace H := Option.bind_eq_some_iff.mp H
          obtain ⟨t503, A190, H⟩ := H
          replace H : ((culletlaw05_pick.f ((rd_T82 l0_0 x6_1).f3.f0) ((rd_T82 l0_0 x6_1).f3.f1) t503).bind fun t504 => ((culletlaw05_exact.f t504).bind fun bt505 => ((culletlaw05_at.f l1 (wrap64 ((wrap64 (4 * x6_1)) + 3))).bind fun t507 => ((culletlaw05_pick.f ((rd_T82 l0_0 x6_1).f4.f0) ((rd_T82 l0_0 x6_1).f4.f1) t507).bind fun t508 => ((culletlaw05_exact.f t508).bind fun bt509 => (if x493000_1.length < 1759218604441 then (culletlaw05_real.l0 k1 l1 (wrap64 (x6_1 + 1)) l0_0 a0_1 a0_2 (x493000_1 ++ [(⟨(⟨t497, t498⟩ : S29), (⟨t501, t502⟩ : S29), (⟨(rd_T82 l0_0 x6_1).f2.f0, (rd_T82 l0_0 x6_1).f2.f1⟩ : S29), (⟨bt505.1, bt505.2⟩ : S29), (⟨bt509.1, bt509.2⟩ : S29)⟩ : S82)]) a0_1 a0_2) else (none))))))) = some (r1, r2, r3) := H
          have A19 := Aside0.mk A190
          clear A190
          replace H := Option.bind_eq_some_iff.mp H
          obtain ⟨t504, A200, H⟩ := H
          replace H : ((culletlaw05_exact.f t504).bind fun bt505 => ((culletlaw05_at.f l1 (wrap64 ((wrap64 (4 * x6_1)) + 3))).bind fun t507 => ((culletlaw05_pick.f ((rd_T82 l0_0 x6_1).f4.f0) ((rd_T82 l0_0 x6_1).f4.f1) t507).bind fun t508 => ((culletlaw05_exact.f t508).bind fun bt509 => (if x493000_1.length < 1759218604441 then (culletlaw05_real.l0 k1 l1 (wrap64 (x6_1 + 1)) l0_0 a0_1 a0_2 (x493000_1 ++ [(⟨(⟨t497, t498⟩ : S29), (⟨t501, t502⟩ : S29), (⟨(rd_T82 l0_0 x6_1).f2.f0, (rd_T82 l0_0 x6_1).f2.f1⟩ : S29), (⟨bt505.1, bt505.2⟩ : S29), (⟨bt509.1, bt509.2⟩ : S29)⟩ : S82)]) a0_1 a0_2) else (none)))))) = some (r1, r2, r3) := H
          have A20 := Aside0.mk A200
          clear A200
          replace H := Option.bind_eq_some_iff.mp H
          obtain ⟨⟨t505, t506⟩, A210, H⟩ := H
          replace H : ((culletlaw05_at.f l1 (wrap64 ((wrap64 (4 * x6_1)) + 3))).bind fun t507 => ((culletlaw05_pick.f ((rd_T82 l0_0 x6_1).f4.f0) ((rd_T82 l0_0 x6_1).f4.f1) t507).bind fun t508 => ((culletlaw05_exact.f t508).bind fun bt509 => (if x493000_1.length < 1759218604441 then (culletlaw05_real.l0 k1 l1 (wrap64 (x6_1 + 1)) l0_0 a0_1 a0_2 (x493000_1 ++ [(⟨(⟨t497, t498⟩ : S29), (⟨t501, t502⟩ : S29), (⟨(rd_T82 l0_0 x6_1).f2.f0, (rd_T82 l0_0 x6_1).f2.f1⟩ : S29), (⟨t505, t506⟩ : S29), (⟨bt509.1, bt509.2⟩ : S29)⟩ : S82)]) a0_1 a0_2) else (none))))) = some (r1, r2, r3) := H
          have A21 := Aside0.mk A210
          clear A210
          replace H := Option.bind_eq_some_iff.mp H
          obtain ⟨t507, A220, H⟩ := H
          replace H : ((culletlaw05_pick.f ((rd_T82 l0_0 x6_1).f4.f0) ((rd_T82 l0_0 x6_1).f4.f1) t507).bind fun t508 => ((culletlaw05_exact.f t508).bind fun bt509 => (if x493000_1.length < 1759218604441 then (culletlaw05_real.l0 k1 l1 (wrap64 (x6_1 + 1)) l0_0 a0_1 a0_2 (x493000_1 ++ [(⟨(⟨t497, t498⟩ : S29), (⟨t501, t502⟩ : S29), (⟨(rd_T82 l0_0 x6_1).f2.f0, (rd_T82 l0_0 x6_1).f2.f1⟩ : S29), (⟨t505, t506⟩ : S29), (⟨bt509.1, bt509.2⟩ : S29)⟩ : S82)]) a0_1 a0_2) else (none)))) = some (r1, r2, r3) := H
          have A22 := Aside0.mk A220
          clear A220
          replace H := Option.bind_eq_some_iff.mp H
          obtain ⟨t508, A230, H⟩ := H
          replace H : ((culletlaw05_exact.f t508).bind fun bt509 => (if x493000_1.length < 1759218604441 then (culletlaw05_real.l0 k1 l1 (wrap64 (x6_1 + 1)) l0_0 a0_1 a0_2 (x493000_1 ++ [(⟨(⟨t497, t498⟩ : S29), (⟨t501, t502⟩ : S29), (⟨(rd_T82 l0_0 x6_1).f2.f0, (rd_T82 l0_0 x6_1).f2.f1⟩ : S29), (⟨t505, t506⟩ : S29), (⟨bt509.1, bt509.2⟩ : S29)⟩ : S82)]) a0_1 a0_2) else (none))) = some (r1, r2, r3) := H
          have A23 := Aside0.mk A230
          clear A230
          replace H := Option.bind_eq_some_iff.mp H
          obtain ⟨⟨t509, t510⟩, A240, H⟩ := H
          replace H : (if x493000_1.length < 1759218604441 then (culletlaw05_real.l0 k1 l1 (wrap64 (x6_1 + 1)) l0_0 a0_1 a0_2 (x493000_1 ++ [(⟨(⟨t497, t498⟩ : S29), (⟨t501, t502⟩ : S29), (⟨(rd_T82 l0_0 x6_1).f2.f0, (rd_T82 l0_0 x6_1).f2.f1⟩ : S29), (⟨t505, t506⟩ : S29), (⟨t509, t510⟩ : S29)⟩ : S82)]) a0_1 a0_2) else (none)) = some (r1, r2, r3) := H
          have A24 := Aside0.mk A240
          clear A240
          by_cases c25 : x493000_1.length < 1759218604441
          · rw [if_pos c25] at H
            have LMc25 := Aside0.mk c25
            clear c25
            obtain ⟨y511, hy511⟩ : ∃ y_ : List (S82), y_ = (x493000_1 ++ [(⟨(⟨t497, t498⟩ : S29), (⟨t501, t502⟩ : S29), (⟨(rd_T82 l0_0 x6_1).f2.f0, (rd_T82 l0_0 x6_1).f2.f1⟩ : S29), (⟨t505, t506⟩ : S29), (⟨t509, t510⟩ : S29)⟩ : S82)]) := ⟨_, rfl⟩
            replace H : (culletlaw05_real.l0 k1 l1 (wrap64 (x6_1 + 1)) l0_0 a0_1 a0_2 y511 a0_1 a0_2) = some (r1, r2, r3) := by first | (rw [hy511]; with_reducible exact H) | (have H2_ := (Option.bind_some _ _).symm.trans H; rw [hy511]; with_reducible exact H2_) | (have H2_ := (Option.bind_some _ _).symm.trans H; with_reducible exact H2_) | with_reducible exact H | (rw [hy511]; exact H) | exact H
            have Ny511 := Aside0.mk hy511
            clear hy511
            have H' := Aside0.mk H
            clear H
            have hnb26 := NB490_491.out
            have hnc26 := NB491_490.out
            have hnb27 := NB490_492.out
            have hnc27 := NB492_490.out
            have hcz28_0 : wr.cell? ⟨gb490, 0, none⟩ = some (.slice A0_0 l0_0.length c0_0) := (blk_cell BK490.out 0).trans rfl
            have hcz28_1 : wr.cell? ⟨gb490, 1, none⟩ = some (.int .i64 a0_1) := (blk_cell BK490.out 1).trans rfl
            have hcz28_2 : wr.cell? ⟨gb490, 2, none⟩ = some (.int .i64 a0_2) := (blk_cell BK490.out 2).trans rfl
            have hfz28_0 := blk_frozen BK490.out 0
            have hfz28_1 := blk_frozen BK490.out 1
            have hfz28_2 := blk_frozen BK490.out 2
            have p493 : 0 ≤ (x6_1 : Int) := of_decide_eq_true (by first | (with_reducible assumption) | assumption)
            have q493 : x6_1 < (l0_0.length : Int) := of_decide_eq_true (by first | (with_reducible assumption) | assumption)
            obtain ⟨ad493, e493, hx493_0, hx493_1, hx493_2, hx493_3, hx493_4, hx493_5, hx493_6, hx493_7, hx493_8, hx493_9⟩ := at_T82 HR0_0.out x6_1 p493 q493
            cases e493
            replace hx493_0 := (HB.out.cell (World.block_lt_of_cell? w _ hx493_0)).trans hx493_0
            replace hx493_1 := (HB.out.cell (World.block_lt_of_cell? w _ hx493_1)).trans hx493_1
            replace hx493_2 := (HB.out.cell (World.block_lt_of_cell? w _ hx493_2)).trans hx493_2
            replace hx493_3 := (HB.out.cell (World.block_lt_of_cell? w _ hx493_3)).trans hx493_3
            replace hx493_4 := (HB.out.cell (World.block_lt_of_cell? w _ hx493_4)).trans hx493_4
            replace hx493_5 := (HB.out.cell (World.block_lt_of_cell? w _ hx493_5)).trans hx493_5
            replace hx493_6 := (HB.out.cell (World.block_lt_of_cell? w _ hx493_6)).trans hx493_6
            replace hx493_7 := (HB.out.cell (World.block_lt_of_cell? w _ hx493_7)).trans hx493_7
            replace hx493_8 := (HB.out.cell (World.block_lt_of_cell? w _ hx493_8)).trans hx493_8
            replace hx493_9 := (HB.out.cell (World.block_lt_of_cell? w _ hx493_9)).trans hx493_9
            replace p493 := eq_true p493
            replace q493 := eq_true q493
            try go_wp2_with (first | ((with_reducible refine gate_dst (N := 7) rfl ?_); refine box_event ?hg (N := 7) ?hd (cs := #[.int .i64 0, .int .i64 0, .int .i64 0, .int .i64 0, .int .i64 0, .int .i64 0, .int .i64 0, .int .i64 0, .int .i64 0, .int .i64 0]) (t := 82) ?hr ?_; (case hd => rfl); (case hg => rfl); (case hr => first | (go_simp; done) | (go_simp; rfl)); intro gb494 hg w29 hbox hb; have n0_ := Aside0.mk (Kd.R_below (Kd.R_elderB (by (with_reducible repeat (first | apply Kd.R_alloc | apply Kd.R_drewN | apply Kd.R_drew)); exact HO_493000.out) gb494 (Nat.le_of_eq hg.symm)) hb); have n1_ := Aside0.mk (blk_below (g := gb490) (o := .cells #[.slice (some ad493) l0_0.length c0_0, .int .i64 a0_1, .int .i64 a0_2] 24 (0, 0)) (by (with_reducible repeat (first | refine blk_drewN ?_ _ | refine blk_drew ?_ | refine blk_alloc ?_ _)); exact BK490.out) hb); have n2_ := Aside0.mk (blk_below (g := gb491) (o := .cells #[.slice none 0 0, .int .i64 0, .int .i64 0] 24 (0, 0)) (by (with_reducible repeat (first | refine blk_drewN ?_ _ | refine blk_drew ?_ | refine blk_alloc ?_ _)); exact BK491.out) hb); have n3_ := Aside0.mk (blk_below (g := gb492) (o := .cells #[u493000, .int .i64 a0_1, .int .i64 a0_2] 24 (0, 0)) (by (with_reducible repeat (first | refine blk_drewN ?_ _ | refine blk_drew ?_ | refine blk_alloc ?_ _)); exact BK492.out) hb); have n4_ := Aside0.mk (below_step (by repeat (first | (with_reducible first | exact HB.out | apply below_alloc | apply pw_below_drewN | apply below_drew1 | refine below_set ?_ GE490.out | refine below_set ?_ GE491.out | refine below_set ?_ GE492.out) | exact HB.out)) hb); have n5_ := Aside0.mk (hbox); have n6_ := Aside0.mk ((by rw [hg]; exact (below_size (by repeat (first | (with_reducible first | exact HB.out | apply below_alloc | apply pw_below_drewN | apply below_drew1 | refine below_set ?_ GE490.out | refine below_set ?_ GE491.out | refine below_set ?_ GE492.out) | exact HB.out))) : w.heap.size ≤ gb494)); have n7_ := Aside0.mk ((by rw [hg]; exact (below_size (by repeat (first | (with_reducible first | exact HB.out | apply below_alloc | apply pw_below_drewN | apply below_drew1 | refine below_set ?_ GE490.out | refine below_set ?_ GE491.out | refine below_set ?_ GE492.out) | exact HB.out))) : w.heap.size ≤ gb494)); have n8_ := Aside0.mk ((by rw [hg]; exact Nat.ne_of_lt (blk_lt (g := gb490) (o := .cells #[.slice (some ad493) l0_0.length c0_0, .int .i64 a0_1, .int .i64 a0_2] 24 (0, 0)) (by (with_reducible repeat (first | refine blk_drewN ?_ _ | refine blk_drew ?_ | refine blk_alloc ?_ _)); exact BK490.out)) : gb490 ≠ gb494)); have n9_ := Aside0.mk ((by rw [hg]; exact Nat.ne_of_gt (blk_lt (g := gb490) (o := .cells #[.slice (some ad493) l0_0.length c0_0, .int .i64 a0_1, .int .i64 a0_2] 24 (0, 0)) (by (with_reducible repeat (first | refine blk_drewN ?_ _ | refine blk_drew ?_ | refine blk_alloc ?_ _)); exact BK490.out)) : gb494 ≠ gb490)); have n10_ := Aside0.mk ((by rw [hg]; exact Nat.ne_of_lt (blk_lt (g := gb491) (o := .cells #[.slice none 0 0, .int .i64 0, .int .i64 0] 24 (0, 0)) (by (with_reducible repeat (first | refine blk_drewN ?_ _ | refine blk_drew ?_ | refine blk_alloc ?_ _)); exact BK491.out)) : gb491 ≠ gb494)); have n11_ := Aside0.mk ((by rw [hg]; exact Nat.ne_of_gt (blk_lt (g := gb491) (o := .cells #[.slice none 0 0, .int .i64 0, .int .i64 0] 24 (0, 0)) (by (with_reducible repeat (first | refine blk_drewN ?_ _ | refine blk_drew ?_ | refine blk_alloc ?_ _)); exact BK491.out)) : gb494 ≠ gb491)); have n12_ := Aside0.mk ((by rw [hg]; exact Nat.ne_of_lt (blk_lt (g := gb492) (o := .cells #[u493000, .int .i64 a0_1, .int .i64 a0_2] 24 (0, 0)) (by (with_reducible repeat (first | refine blk_drewN ?_ _ | refine blk_drew ?_ | refine blk_alloc ?_ _)); exact BK492.out)) : gb492 ≠ gb494)); have n13_ := Aside0.mk ((by rw [hg]; exact Nat.ne_of_gt (blk_lt (g := gb492) (o := .cells #[u493000, .int .i64 a0_1, .int .i64 a0_2] 24 (0, 0)) (by (with_reducible repeat (first | refine blk_drewN ?_ _ | refine blk_drew ?_ | refine blk_alloc ?_ _)); exact BK492.out)) : gb494 ≠ gb492)); clear HO_493000; clear BK490; clear BK491; clear BK492; clear HB; have HO_493000 := n0_; have BK490 := n1_; have BK491 := n2_; have BK492 := n3_; have HB := n4_; have BK494 := n5_; have GW494 := n6_; have GE494 := n7_; have NB490_494 := n8_; have NB494_490 := n9_; have NB491_494 := n10_; have NB494_491 := n11_; have NB492_494 := n12_; have NB494_492 := n13_; clear n0_ n1_ n2_ n3_ n4_ n5_ n6_ n7_ n8_ n9_ n10_ n11_ n12_ n13_; clear hb hbox hg; have hnb30 := NB494_490.out; have hnc30 := NB490_494.out; have hnb31 := NB494_491.out; have hnc31 := NB491_494.out; have hnb32 := NB494_492.out; have hnc32 := NB492_494.out; have hcz33_0 : w29.cell? ⟨gb494, 0, none⟩ = some (.int .i64 0) := (blk_cell BK494.out 0).trans rfl; have hcz33_1 : w29.cell? ⟨gb494, 1, none⟩ = some (.int .i64 0) := (blk_cell BK494.out 1).trans rfl; have hcz33_2 : w29.cell? ⟨gb494, 2, none⟩ = some (.int .i64 0) := (blk_cell BK494.out 2).trans rfl; have hcz33_3 : w29.cell? ⟨gb494, 3, none⟩ = some (.int .i64 0) := (blk_cell BK494.out 3).trans rfl; have hcz33_4 : w29.cell? ⟨gb494, 4, none⟩ = some (.int .i64 0) := (blk_cell BK494.out 4).trans rfl; have hcz33_5 : w29.cell? ⟨gb494, 5, none⟩ = some (.int .i64 0) := (blk_cell BK494.out 5).trans rfl; have hcz33_6 : w29.cell? ⟨gb494, 6, none⟩ = some (.int .i64 0) := (blk_cell BK494.out 6).trans rfl; have hcz33_7 : w29.cell? ⟨gb494, 7, none⟩ = some (.int .i64 0) := (blk_cell BK494.out 7).trans rfl; have hcz33_8 : w29.cell? ⟨gb494, 8, none⟩ = some (.int .i64 0) := (blk_cell BK494.out 8).trans rfl; have hcz33_9 : w29.cell? ⟨gb494, 9, none⟩ = some (.int .i64 0) := (blk_cell BK494.out 9).trans rfl; have hfz33_0 := blk_frozen BK494.out 0; have hfz33_1 := blk_frozen BK494.out 1; have hfz33_2 := blk_frozen BK494.out 2; have hfz33_3 := blk_frozen BK494.out 3; have hfz33_4 := blk_frozen BK494.out 4; have hfz33_5 := blk_frozen BK494.out 5; have hfz33_6 := blk_frozen BK494.out 6; have hfz33_7 := blk_frozen BK494.out 7; have hfz33_8 := blk_frozen BK494.out 8; have hfz33_9 := blk_frozen BK494.out 9))
            have n0_ : Aside0 (Kd.R k82 82 ((((((((((w29.setCell ⟨gb494, 0, none⟩ (.int .i64 ((rd_T82 l0_0 x6_1).f0.f0))).setCell ⟨gb494, 1, none⟩ (.int .i64 ((rd_T82 l0_0 x6_1).f0.f1))).setCell ⟨gb494, 2, none⟩ (.int .i64 ((rd_T82 l0_0 x6_1).f1.f0))).setCell ⟨gb494, 3, none⟩ (.int .i64 ((rd_T82 l0_0 x6_1).f1.f1))).setCell ⟨gb494, 4, none⟩ (.int .i64 ((rd_T82 l0_0 x6_1).f2.f0))).setCell ⟨gb494, 5, none⟩ (.int .i64 ((rd_T82 l0_0 x6_1).f2.f1))).setCell ⟨gb494, 6, none⟩ (.int .i64 ((rd_T82 l0_0 x6_1).f3.f0))).setCell ⟨gb494, 7, none⟩ (.int .i64 ((rd_T82 l0_0 x6_1).f3.f1))).setCell ⟨gb494, 8, none⟩ (.int .i64 ((rd_T82 l0_0 x6_1).f4.f0))).setCell ⟨gb494, 9, none⟩ (.int .i64 ((rd_T82 l0_0 x6_1).f4.f1))) w.heap.size (fun k_ => k_ ≠ gb494) u493000 x493000_1) := ⟨by (with_reducible repeat (first | apply Kd.R_alloc | apply Kd.R_drewN | apply Kd.R_drew)); exact Kd.R_mono (Kd.R_far (p := ⟨gb494, 9, none⟩) (Kd.R_far (p := ⟨gb494, 8, none⟩) (Kd.R_far (p := ⟨gb494, 7, none⟩) (Kd.R_far (p := ⟨gb494, 6, none⟩) (Kd.R_far (p := ⟨gb494, 5, none⟩) (Kd.R_far (p := ⟨gb494, 4, none⟩) (Kd.R_far (p := ⟨gb494, 3, none⟩) (Kd.R_far (p := ⟨gb494, 2, none⟩) (Kd.R_far (p := ⟨gb494, 1, none⟩) (Kd.R_far (p := ⟨gb494, 0, none⟩) (Kd.R_mono HO_493000.out (fun k_ hk => (⟨hk, hk.2⟩ : _ ∧ k_ ≠ gb494))) (fun _ hk => hk.2) (.int .i64 ((rd_T82 l0_0 x6_1).f0.f0))) (fun _ hk => hk.2) (.int .i64 ((rd_T82 l0_0 x6_1).f0.f1))) (fun _ hk => hk.2) (.int .i64 ((rd_T82 l0_0 x6_1).f1.f0))) (fun _ hk => hk.2) (.int .i64 ((rd_T82 l0_0 x6_1).f1.f1))) (fun _ hk => hk.2) (.int .i64 ((rd_T82 l0_0 x6_1).f2.f0))) (fun _ hk => hk.2) (.int .i64 ((rd_T82 l0_0 x6_1).f2.f1))) (fun _ hk => hk.2) (.int .i64 ((rd_T82 l0_0 x6_1).f3.f0))) (fun _ hk => hk.2) (.int .i64 ((rd_T82 l0_0 x6_1).f3.f1))) (fun _ hk => hk.2) (.int .i64 ((rd_T82 l0_0 x6_1).f4.f0))) (fun _ hk => hk.2) (.int .i64 ((rd_T82 l0_0 x6_1).f4.f1))) (fun _ hk => hk.1.2)⟩
            have n1_ : Aside0 (((((((((((w29.setCell ⟨gb494, 0, none⟩ (.int .i64 ((rd_T82 l0_0 x6_1).f0.f0))).setCell ⟨gb494, 1, none⟩ (.int .i64 ((rd_T82 l0_0 x6_1).f0.f1))).setCell ⟨gb494, 2, none⟩ (.int .i64 ((rd_T82 l0_0 x6_1).f1.f0))).setCell ⟨gb494, 3, none⟩ (.int .i64 ((rd_T82 l0_0 x6_1).f1.f1))).setCell ⟨gb494, 4, none⟩ (.int .i64 ((rd_T82 l0_0 x6_1).f2.f0))).setCell ⟨gb494, 5, none⟩ (.int .i64 ((rd_T82 l0_0 x6_1).f2.f1))).setCell ⟨gb494, 6, none⟩ (.int .i64 ((rd_T82 l0_0 x6_1).f3.f0))).setCell ⟨gb494, 7, none⟩ (.int .i64 ((rd_T82 l0_0 x6_1).f3.f1))).setCell ⟨gb494, 8, none⟩ (.int .i64 ((rd_T82 l0_0 x6_1).f4.f0))).setCell ⟨gb494, 9, none⟩ (.int .i64 ((rd_T82 l0_0 x6_1).f4.f1))).heap[gb490]? = some (.cells #[.slice (some ad493) l0_0.length c0_0, .int .i64 a0_1, .int .i64 a0_2] 24 (0, 0))) := ⟨by (with_reducible repeat (first | refine blk_drewN ?_ _ | refine blk_drew ?_ | refine blk_alloc ?_ _)); refine blk_far ?_ NB490_494.out _; (with_reducible repeat (first | refine blk_drewN ?_ _ | refine blk_drew ?_ | refine blk_alloc ?_ _)); refine blk_far ?_ NB490_494.out _; (with_reducible repeat (first | refine blk_drewN ?_ _ | refine blk_drew ?_ | refine blk_alloc ?_ _)); refine blk_far ?_ NB490_494.out _; (with_reducible repeat (first | refine blk_drewN ?_ _ | refine blk_drew ?_ | refine blk_alloc ?_ _)); refine blk_far ?_ NB490_494.out _; (with_reducible repeat (first | refine blk_drewN ?_ _ | refine blk_drew ?_ | refine blk_alloc ?_ _)); refine blk_far ?_ NB490_494.out _; (with_reducible repeat (first | refine blk_drewN ?_ _ | refine blk_drew ?_ | refine blk_alloc ?_ _)); refine blk_far ?_ NB490_494.out _; (with_reducible repeat (first | refine blk_drewN ?_ _ | refine blk_drew ?_ | refine blk_alloc ?_ _)); refine blk_far ?_ NB490_494.out _; (with_reducible repeat (first | refine blk_drewN ?_ _ | refine blk_drew ?_ | refine blk_alloc ?_ _)); refine blk_far ?_ NB490_494.out _; (with_reducible repeat (first | refine blk_drewN ?_ _ | refine blk_drew ?_ | refine blk_alloc ?_ _)); refine blk_far ?_ NB490_494.out _; (with_reducible repeat (first | refine blk_drewN ?_ _ | refine blk_drew ?_ | refine blk_alloc ?_ _)); refine blk_far ?_ NB490_494.out _; (with_reducible repeat (first | refine blk_drewN ?_ _ | refine blk_drew ?_ | refine blk_alloc ?_ _)); exact BK490.out⟩
            have n2_ : Aside0 (((((((((((w29.setCell ⟨gb494, 0, none⟩ (.int .i64 ((rd_T82 l0_0 x6_1).f0.f0))).setCell ⟨gb494, 1, none⟩ (.int .i64 ((rd_T82 l0_0 x6_1).f0.f1))).setCell ⟨gb494, 2, none⟩ (.int .i64 ((rd_T82 l0_0 x6_1).f1.f0))).setCell ⟨gb494, 3, none⟩ (.int .i64 ((rd_T82 l0_0 x6_1).f1.f1))).setCell ⟨gb494, 4, none⟩ (.int .i64 ((rd_T82 l0_0 x6_1).f2.f0))).setCell ⟨gb494, 5, none⟩ (.int .i64 ((rd_T82 l0_0 x6_1).f2.f1))).setCell ⟨gb494, 6, none⟩ (.int .i64 ((rd_T82 l0_0 x6_1).f3.f0))).setCell ⟨gb494, 7, none⟩ (.int .i64 ((rd_T82 l0_0 x6_1).f3.f1))).setCell ⟨gb494, 8, none⟩ (.int .i64 ((rd_T82 l0_0 x6_1).f4.f0))).setCell ⟨gb494, 9, none⟩ (.int .i64 ((rd_T82 l0_0 x6_1).f4.f1))).heap[gb491]? = some (.cells #[.slice none 0 0, .int .i64 0, .int .i64 0] 24 (0, 0))) := ⟨by (with_reducible repeat (first | refine blk_drewN ?_ _ | refine blk_drew ?_ | refine blk_alloc ?_ _)); refine blk_far ?_ NB491_494.out _; (with_reducible repeat (first | refine blk_drewN ?_ _ | refine blk_drew ?_ | refine blk_alloc ?_ _)); refine blk_far ?_ NB491_494.out _; (with_reducible repeat (first | refine blk_drewN ?_ _ | refine blk_drew ?_ | refine blk_alloc ?_ _)); refine blk_far ?_ NB491_494.out _; (with_reducible repeat (first | refine blk_drewN ?_ _ | refine blk_drew ?_ | refine blk_alloc ?_ _)); refine blk_far ?_ NB491_494.out _; (with_reducible repeat (first | refine blk_drewN ?_ _ | refine blk_drew ?_ | refine blk_alloc ?_ _)); refine blk_far ?_ NB491_494.out _; (with_reducible repeat (first | refine blk_drewN ?_ _ | refine blk_drew ?_ | refine blk_alloc ?_ _)); refine blk_far ?_ NB491_494.out _; (with_reducible repeat (first | refine blk_drewN ?_ _ | refine blk_drew ?_ | refine blk_alloc ?_ _)); refine blk_far ?_ NB491_494.out _; (with_reducible repeat (first | refine blk_drewN ?_ _ | refine blk_drew ?_ | refine blk_alloc ?_ _)); refine blk_far ?_ NB491_494.out _; (with_reducible repeat (first | refine blk_drewN ?_ _ | refine blk_drew ?_ | refine blk_alloc ?_ _)); refine blk_far ?_ NB491_494.out _; (with_reducible repeat (first | refine blk_drewN ?_ _ | refine blk_drew ?_ | refine blk_alloc ?_ _)); refine blk_far ?_ NB491_494.out _; (with_reducible repeat (first | refine blk_drewN ?_ _ | refine blk_drew ?_ | refine blk_alloc ?_ _)); exact BK491.out⟩
            have n3_ : Aside0 (((((((((((w29.setCell ⟨gb494, 0, none⟩ (.int .i64 ((rd_T82 l0_0 x6_1).f0.f0))).setCell ⟨gb494, 1, none⟩ (.int .i64 ((rd_T82 l0_0 x6_1).f0.f1))).setCell ⟨gb494, 2, none⟩ (.int .i64 ((rd_T82 l0_0 x6_1).f1.f0))).setCell ⟨gb494, 3, none⟩ (.int .i64 ((rd_T82 l0_0 x6_1).f1.f1))).setCell ⟨gb494, 4, none⟩ (.int .i64 ((rd_T82 l0_0 x6_1).f2.f0))).setCell ⟨gb494, 5, none⟩ (.int .i64 ((rd_T82 l0_0 x6_1).f2.f1))).setCell ⟨gb494, 6, none⟩ (.int .i64 ((rd_T82 l0_0 x6_1).f3.f0))).setCell ⟨gb494, 7, none⟩ (.int .i64 ((rd_T82 l0_0 x6_1).f3.f1))).setCell ⟨gb494, 8, none⟩ (.int .i64 ((rd_T82 l0_0 x6_1).f4.f0))).setCell ⟨gb494, 9, none⟩ (.int .i64 ((rd_T82 l0_0 x6_1).f4.f1))).heap[gb492]? = some (.cells #[u493000, .int .i64 a0_1, .int .i64 a0_2] 24 (0, 0))) := ⟨by (with_reducible repeat (first | refine blk_drewN ?_ _ | refine blk_drew ?_ | refine blk_alloc ?_ _)); refine blk_far ?_ NB492_494.out _; (with_reducible repeat (first | refine blk_drewN ?_ _ | refine blk_drew ?_ | refine blk_alloc ?_ _)); refine blk_far ?_ NB492_494.out _; (with_reducible repeat (first | refine blk_drewN ?_ _ | refine blk_drew ?_ | refine blk_alloc ?_ _)); refine blk_far ?_ NB492_494.out _; (with_reducible repeat (first | refine blk_drewN ?_ _ | refine blk_drew ?_ | refine blk_alloc ?_ _)); refine blk_far ?_ NB492_494.out _; (with_reducible repeat (first | refine blk_drewN ?_ _ | refine blk_drew ?_ | refine blk_alloc ?_ _)); refine blk_far ?_ NB492_494.out _; (with_reducible repeat (first | refine blk_drewN ?_ _ | refine blk_drew ?_ | refine blk_alloc ?_ _)); refine blk_far ?_ NB492_494.out _; (with_reducible repeat (first | refine blk_drewN ?_ _ | refine blk_drew ?_ | refine blk_alloc ?_ _)); refine blk_far ?_ NB492_494.out _; (with_reducible repeat (first | refine blk_drewN ?_ _ | refine blk_drew ?_ | refine blk_alloc ?_ _)); refine blk_far ?_ NB492_494.out _; (with_reducible repeat (first | refine blk_drewN ?_ _ | refine blk_drew ?_ | refine blk_alloc ?_ _)); refine blk_far ?_ NB492_494.out _; (with_reducible repeat (first | refine blk_drewN ?_ _ | refine blk_drew ?_ | refine blk_alloc ?_ _)); refine blk_far ?_ NB492_494.out _; (with_reducible repeat (first | refine blk_drewN ?_ _ | refine blk_drew ?_ | refine blk_alloc ?_ _)); exact BK492.out⟩
            have n4_ : Aside0 (((((((((((w29.setCell ⟨gb494, 0, none⟩ (.int .i64 ((rd_T82 l0_0 x6_1).f0.f0))).setCell ⟨gb494, 1, none⟩ (.int .i64 ((rd_T82 l0_0 x6_1).f0.f1))).setCell ⟨gb494, 2, none⟩ (.int .i64 ((rd_T82 l0_0 x6_1).f1.f0))).setCell ⟨gb494, 3, none⟩ (.int .i64 ((rd_T82 l0_0 x6_1).f1.f1))).setCell ⟨gb494, 4, none⟩ (.int .i64 ((rd_T82 l0_0 x6_1).f2.f0))).setCell ⟨gb494, 5, none⟩ (.int .i64 ((rd_T82 l0_0 x6_1).f2.f1))).setCell ⟨gb494, 6, none⟩ (.int .i64 ((rd_T82 l0_0 x6_1).f3.f0))).setCell ⟨gb494, 7, none⟩ (.int .i64 ((rd_T82 l0_0 x6_1).f3.f1))).setCell ⟨gb494, 8, none⟩ (.int .i64 ((rd_T82 l0_0 x6_1).f4.f0))).setCell ⟨gb494, 9, none⟩ (.int .i64 ((rd_T82 l0_0 x6_1).f4.f1))).heap[gb494]? = some (.cells #[.int .i64 ((rd_T82 l0_0 x6_1).f0.f0), .int .i64 ((rd_T82 l0_0 x6_1).f0.f1), .int .i64 ((rd_T82 l0_0 x6_1).f1.f0), .int .i64 ((rd_T82 l0_0 x6_1).f1.f1), .int .i64 ((rd_T82 l0_0 x6_1).f2.f0), .int .i64 ((rd_T82 l0_0 x6_1).f2.f1), .int .i64 ((rd_T82 l0_0 x6_1).f3.f0), .int .i64 ((rd_T82 l0_0 x6_1).f3.f1), .int .i64 ((rd_T82 l0_0 x6_1).f4.f0), .int .i64 ((rd_T82 l0_0 x6_1).f4.f1)] 82 (0, 0))) := ⟨by (with_reducible repeat (first | refine blk_drewN ?_ _ | refine blk_drew ?_ | refine blk_alloc ?_ _)); refine blk_put (cs := #[.int .i64 ((rd_T82 l0_0 x6_1).f0.f0), .int .i64 ((rd_T82 l0_0 x6_1).f0.f1), .int .i64 ((rd_T82 l0_0 x6_1).f1.f0), .int .i64 ((rd_T82 l0_0 x6_1).f1.f1), .int .i64 ((rd_T82 l0_0 x6_1).f2.f0), .int .i64 ((rd_T82 l0_0 x6_1).f2.f1), .int .i64 ((rd_T82 l0_0 x6_1).f3.f0), .int .i64 ((rd_T82 l0_0 x6_1).f3.f1), .int .i64 ((rd_T82 l0_0 x6_1).f4.f0), .int .i64 0]) ?_ 9 _ rfl; (with_reducible repeat (first | refine blk_drewN ?_ _ | refine blk_drew ?_ | refine blk_alloc ?_ _)); refine blk_put (cs := #[.int .i64 ((rd_T82 l0_0 x6_1).f0.f0), .int .i64 ((rd_T82 l0_0 x6_1).f0.f1), .int .i64 ((rd_T82 l0_0 x6_1).f1.f0), .int .i64 ((rd_T82 l0_0 x6_1).f1.f1), .int .i64 ((rd_T82 l0_0 x6_1).f2.f0), .int .i64 ((rd_T82 l0_0 x6_1).f2.f1), .int .i64 ((rd_T82 l0_0 x6_1).f3.f0), .int .i64 ((rd_T82 l0_0 x6_1).f3.f1), .int .i64 0, .int .i64 0]) ?_ 8 _ rfl; (with_reducible repeat (first | refine blk_drewN ?_ _ | refine blk_drew ?_ | refine blk_alloc ?_ _)); refine blk_put (cs := #[.int .i64 ((rd_T82 l0_0 x6_1).f0.f0), .int .i64 ((rd_T82 l0_0 x6_1).f0.f1), .int .i64 ((rd_T82 l0_0 x6_1).f1.f0), .int .i64 ((rd_T82 l0_0 x6_1).f1.f1), .int .i64 ((rd_T82 l0_0 x6_1).f2.f0), .int .i64 ((rd_T82 l0_0 x6_1).f2.f1), .int .i64 ((rd_T82 l0_0 x6_1).f3.f0), .int .i64 0, .int .i64 0, .int .i64 0]) ?_ 7 _ rfl; (with_reducible repeat (first | refine blk_drewN ?_ _ | refine blk_drew ?_ | refine blk_alloc ?_ _)); refine blk_put (cs := #[.int .i64 ((rd_T82 l0_0 x6_1).f0.f0), .int .i64 ((rd_T82 l0_0 x6_1).f0.f1), .int .i64 ((rd_T82 l0_0 x6_1).f1.f0), .int .i64 ((rd_T82 l0_0 x6_1).f1.f1), .int .i64 ((rd_T82 l0_0 x6_1).f2.f0), .int .i64 ((rd_T82 l0_0 x6_1).f2.f1), .int .i64 0, .int .i64 0, .int .i64 0, .int .i64 0]) ?_ 6 _ rfl; (with_reducible repeat (first | refine blk_drewN ?_ _ | refine blk_drew ?_ | refine blk_alloc ?_ _)); refine blk_put (cs := #[.int .i64 ((rd_T82 l0_0 x6_1).f0.f0), .int .i64 ((rd_T82 l0_0 x6_1).f0.f1), .int .i64 ((rd_T82 l0_0 x6_1).f1.f0), .int .i64 ((rd_T82 l0_0 x6_1).f1.f1), .int .i64 ((rd_T82 l0_0 x6_1).f2.f0), .int .i64 0, .int .i64 0, .int .i64 0, .int .i64 0, .int .i64 0]) ?_ 5 _ rfl; (with_reducible repeat (first | refine blk_drewN ?_ _ | refine blk_drew ?_ | refine blk_alloc ?_ _)); refine blk_put (cs := #[.int .i64 ((rd_T82 l0_0 x6_1).f0.f0), .int .i64 ((rd_T82 l0_0 x6_1).f0.f1), .int .i64 ((rd_T82 l0_0 x6_1).f1.f0), .int .i64 ((rd_T82 l0_0 x6_1).f1.f1), .int .i64 0, .int .i64 0, .int .i64 0, .int .i64 0, .int .i64 0, .int .i64 0]) ?_ 4 _ rfl; (with_reducible repeat (first | refine blk_drewN ?_ _ | refine blk_drew ?_ | refine blk_alloc ?_ _)); refine blk_put (cs := #[.int .i64 ((rd_T82 l0_0 x6_1).f0.f0), .int .i64 ((rd_T82 l0_0 x6_1).f0.f1), .int .i64 ((rd_T82 l0_0 x6_1).f1.f0), .int .i64 0, .int .i64 0, .int .i64 0, .int .i64 0, .int .i64 0, .int .i64 0, .int .i64 0]) ?_ 3 _ rfl; (with_reducible repeat (first | refine blk_drewN ?_ _ | refine blk_drew ?_ | refine blk_alloc ?_ _)); refine blk_put (cs := #[.int .i64 ((rd_T82 l0_0 x6_1).f0.f0), .int .i64 ((rd_T82 l0_0 x6_1).f0.f1), .int .i64 0, .int .i64 0, .int .i64 0, .int .i64 0, .int .i64 0, .int .i64 0, .int .i64 0, .int .i64 0]) ?_ 2 _ rfl; (with_reducible repeat (first | refine blk_drewN ?_ _ | refine blk_drew ?_ | refine blk_alloc ?_ _)); refine blk_put (cs := #[.int .i64 ((rd_T82 l0_0 x6_1).f0.f0), .int .i64 0, .int .i64 0, .int .i64 0, .int .i64 0, .int .i64 0, .int .i64 0, .int .i64 0, .int .i64 0, .int .i64 0]) ?_ 1 _ rfl; (with_reducible repeat (first | refine blk_drewN ?_ _ | refine blk_drew ?_ | refine blk_alloc ?_ _)); refine blk_put (cs := #[.int .i64 0, .int .i64 0, .int .i64 0, .int .i64 0, .int .i64 0, .int .i64 0, .int .i64 0, .int .i64 0, .int .i64 0, .int .i64 0]) ?_ 0 _ rfl; (with_reducible repeat (first | refine blk_drewN ?_ _ | refine blk_drew ?_ | refine blk_alloc ?_ _)); exact BK494.out⟩
            have n5_ : Aside0 (Below w.heap.size w ((((((((((w29.setCell ⟨gb494, 0, none⟩ (.int .i64 ((rd_T82 l0_0 x6_1).f0.f0))).setCell ⟨gb494, 1, none⟩ (.int .i64 ((rd_T82 l0_0 x6_1).f0.f1))).setCell ⟨gb494, 2, none⟩ (.int .i64 ((rd_T82 l0_0 x6_1).f1.f0))).setCell ⟨gb494, 3, none⟩ (.int .i64 ((rd_T82 l0_0 x6_1).f1.f1))).setCell ⟨gb494, 4, none⟩ (.int .i64 ((rd_T82 l0_0 x6_1).f2.f0))).setCell ⟨gb494, 5, none⟩ (.int .i64 ((rd_T82 l0_0 x6_1).f2.f1))).setCell ⟨gb494, 6, none⟩ (.int .i64 ((rd_T82 l0_0 x6_1).f3.f0))).setCell ⟨gb494, 7, none⟩ (.int .i64 ((rd_T82 l0_0 x6_1).f3.f1))).setCell ⟨gb494, 8, none⟩ (.int .i64 ((rd_T82 l0_0 x6_1).f4.f0))).setCell ⟨gb494, 9, none⟩ (.int .i64 ((rd_T82 l0_0 x6_1).f4.f1)))) := ⟨by repeat (first | (with_reducible first | exact HB.out | apply below_alloc | apply pw_below_drewN | apply below_drew1 | refine below_set ?_ GE490.out | refine below_set ?_ GE491.out | refine below_set ?_ GE492.out | refine below_set ?_ GE494.out) | exact HB.out)⟩
            (try clear HO_493000)
            (try clear BK490)
            (try clear BK491)
            (try clear BK492)
            (try clear BK494)
            (try clear HB)
            generalize ((((((((((w29.setCell ⟨gb494, 0, none⟩ (.int .i64 ((rd_T82 l0_0 x6_1).f0.f0))).setCell ⟨gb494, 1, none⟩ (.int .i64 ((rd_T82 l0_0 x6_1).f0.f1))).setCell ⟨gb494, 2, none⟩ (.int .i64 ((rd_T82 l0_0 x6_1).f1.f0))).setCell ⟨gb494, 3, none⟩ (.int .i64 ((rd_T82 l0_0 x6_1).f1.f1))).setCell ⟨gb494, 4, none⟩ (.int .i64 ((rd_T82 l0_0 x6_1).f2.f0))).setCell ⟨gb494, 5, none⟩ (.int .i64 ((rd_T82 l0_0 x6_1).f2.f1))).setCell ⟨gb494, 6, none⟩ (.int .i64 ((rd_T82 l0_0 x6_1).f3.f0))).setCell ⟨gb494, 7, none⟩ (.int .i64 ((rd_T82 l0_0 x6_1).f3.f1))).setCell ⟨gb494, 8, none⟩ (.int .i64 ((rd_T82 l0_0 x6_1).f4.f0))).setCell ⟨gb494, 9, none⟩ (.int .i64 ((rd_T82 l0_0 x6_1).f4.f1))) = w34 at n0_ n1_ n2_ n3_ n4_ n5_ ⊢
            have HO_493000 := n0_
            have BK490 := n1_
            have BK491 := n2_
            have BK492 := n3_
            have BK494 := n4_
            have HB := n5_
            clear n0_ n1_ n2_ n3_ n4_ n5_
            have n0_ := Aside0.mk (Kd.R_drew HO_493000.out)
            have n1_ := Aside0.mk (blk_drew BK490.out)
            have n2_ := Aside0.mk (blk_drew BK491.out)
            have n3_ := Aside0.mk (blk_drew BK492.out)
            have n4_ := Aside0.mk (blk_drew BK494.out)
            have n5_ := Aside0.mk (below_drew1 HB.out)
            clear HO_493000
            clear BK490
            clear BK491
            clear BK492
            clear BK494
            clear HB
            have HO_493000 := n0_
            have BK490 := n1_
            have BK491 := n2_
            have BK492 := n3_
            have BK494 := n4_
            have HB := n5_
            clear n0_ n1_ n2_ n3_ n4_ n5_
            refine start_ (n := 44) (S := fun w' => w'.cell? ⟨gb492, 0, none⟩ = some (u493000) ∧ w'.cell? ⟨gb492, 1, none⟩ = some (.int .i64 a0_1) ∧ w'.cell? ⟨gb492, 2, none⟩ = some (.int .i64 a0_2) ∧ w'.cell? ⟨gb494, 0, none⟩ = some (.int .i64 ((rd_T82 l0_0 x6_1).f0.f0)) ∧ w'.cell? ⟨gb494, 1, none⟩ = some (.int .i64 ((rd_T82 l0_0 x6_1).f0.f1)) ∧ w'.cell? ⟨gb494, 2, none⟩ = some (.int .i64 ((rd_T82 l0_0 x6_1).f1.f0)) ∧ w'.cell? ⟨gb494, 3, none⟩ = some (.int .i64 ((rd_T82 l0_0 x6_1).f1.f1)) ∧ w'.cell? ⟨gb494, 4, none⟩ = some (.int .i64 ((rd_T82 l0_0 x6_1).f2.f0)) ∧ w'.cell? ⟨gb494, 5, none⟩ = some (.int .i64 ((rd_T82 l0_0 x6_1).f2.f1)) ∧ w'.cell? ⟨gb494, 6, none⟩ = some (.int .i64 ((rd_T82 l0_0 x6_1).f3.f0)) ∧ w'.cell? ⟨gb494, 7, none⟩ = some (.int .i64 ((rd_T82 l0_0 x6_1).f3.f1)) ∧ w'.cell? ⟨gb494, 8, none⟩ = some (.int .i64 ((rd_T82 l0_0 x6_1).f4.f0)) ∧ w'.cell? ⟨gb494, 9, none⟩ = some (.int .i64 ((rd_T82 l0_0 x6_1).f4.f1))) (ds := [43]) #[false, false, false, false, false, false, false, false, false, false, false, false, false, false, false, false, false, false, false, false, false, false, false, false, false, false, false, false, false, false, false, false, false, false, false, false, false, false, false, false, false, false, false, false] (by kernel_rfl) rfl rfl ⟨(blk_cell BK492.out 0).trans rfl, (blk_cell BK492.out 1).trans rfl, (blk_cell BK492.out 2).trans rfl, (blk_cell BK494.out 0).trans rfl, (blk_cell BK494.out 1).trans rfl, (blk_cell BK494.out 2).trans rfl, (blk_cell BK494.out 3).trans rfl, (blk_cell BK494.out 4).trans rfl, (blk_cell BK494.out 5).trans rfl, (blk_cell BK494.out 6).trans rfl, (blk_cell BK494.out 7).trans rfl, (blk_cell BK494.out 8).trans rfl, (blk_cell BK494.out 9).trans rfl⟩ (fun hHeld => ?_); refine with_tabW culletlaw05_real.tab6 culletlaw05_real.bits6 (fun HT_ HW_ => ?_)
            generalize w34.drew = w35 at HO_493000 BK490 BK491 BK492 BK494 HB hHeld ⊢
            refine pure_ (i := 0) (N := some 25) (v := ?_) (a' := ?_) #[true, false, false, false, false, false, false, false, false, false, false, false, false, false, false, false, false, false, false, false, false, false, false, false, false, false, false, false, false, false, false, false, false, false, false, false, false, false, false, false, false, false, false, false] rfl rfl (any_of HT_.out (by kernel_rfl)) (fun _ _ _ h => h) (Or.inl ⟨by rfl, ?_⟩) ?_ ?_
            rotate_left
            · intro w'
              go_simp
              with_reducible rfl
            rotate_left
            · simp only [Act.put, List.setIfInBounds_toArray, List.set_cons_zero, List.set_cons_succ, i64_w, i32_w]
              rfl
            refine pure_ (i := 2) (N := some 27) (v := ?_) (a' := ?_) #[true, false, true, false, false, false, false, false, false, false, false, false, false, false, false, false, false, false, false, false, false, false, false, false, false, false, false, false, false, false, false, false, false, false, false, false, false, false, false, false, false, false, false, false] rfl rfl (any_of HT_.out (by kernel_rfl)) (fun _ _ _ h => h) (Or.inl ⟨by rfl, ?_⟩) ?_ ?_
            rotate_left
            · intro w'
              go_simp
              with_reducible rfl
            rotate_left
            · simp only [Act.put, List.setIfInBounds_toArray, List.set_cons_zero, List.set_cons_succ, i64_w, i32_w]
              rfl
            refine pure_ (i := 4) (N := some 29) (v := ?_) (a' := ?_) #[true, false, true, false, true, false, false, false, false, false, false, false, false, false, false, false, false, false, false, false, false, false, false, false, false, false, false, false, false, false, false, false, false, false, false, false, false, false, false, false, false, false, false, false] rfl rfl (any_of HT_.out (by kernel_rfl)) (fun _ _ _ h => h) (Or.inl ⟨by rfl, ?_⟩) ?_ ?_
            rotate_left
            · intro w'
              go_simp
              with_reducible rfl
            rotate_left
            · simp only [Act.put, List.setIfInBounds_toArray, List.set_cons_zero, List.set_cons_succ, i64_w, i32_w]
              rfl
            refine pure_ (i := 5) (N := some 30) (v := ?_) (a' := ?_) #[true, false, true, false, true, true, false, false, false, false, false, false, false, false, false, false, false, false, false, false, false, false, false, false, false, false, false, false, false, false, false, false, false, false, false, false, false, false, false, false, false, false, false, false] rfl rfl (any_of HT_.out (by kernel_rfl)) (fun _ _ _ h => h) (Or.inl ⟨by rfl, ?_⟩) ?_ ?_
            rotate_left
            · intro w'
              go_simp
              with_reducible rfl
            rotate_left
            · simp only [Act.put, List.setIfInBounds_toArray, List.set_cons_zero, List.set_cons_succ, i64_w, i32_w]
              rfl
            refine pure_ (i := 6) (N := some 31) (v := ?_) (a' := ?_) #[true, false, true, false, true, true, true, false, false, false, false, false, false, false, false, false, false, false, false, false, false, false, false, false, false, false, false, false, false, false, false, false, false, false, false, false, false, false, false, false, false, false, false, false] rfl rfl (any_of HT_.out (by kernel_rfl)) (fun _ _ _ h => h) (Or.inl ⟨by rfl, ?_⟩) ?_ ?_
            rotate_left
            · intro w'
              go_simp
              with_reducible rfl
            rotate_left
            · simp only [Act.put, List.setIfInBounds_toArray, List.set_cons_zero, List.set_cons_succ, i64_w, i32_w]
              rfl
            refine pure_ (i := 10) (N := some 35) (v := ?_) (a' := ?_) #[true, false, true, false, true, true, true, false, false, false, true, false, false, false, false, false, false, false, false, false, false, false, false, false, false, false, false, false, false, false, false, false, false, false, false, false, false, false, false, false, false, false, false, false] rfl rfl (any_of HT_.out (by kernel_rfl)) (fun _ _ _ h => h) (Or.inl ⟨by rfl, ?_⟩) ?_ ?_
            rotate_left
            · intro w'
              go_simp
              with_reducible rfl
            rotate_left
            · simp only [Act.put, List.setIfInBounds_toArray, List.set_cons_zero, List.set_cons_succ, i64_w, i32_w]
              rfl
            refine pure_ (i := 12) (N := some 37) (v := ?_) (a' := ?_) #[true, false, true, false, true, true, true, false, false, false, true, false, true, false, false, false, false, false, false, false, false, false, false, false, false, false, false, false, false, false, false, false, false, false, false, false, false, false, false, false, false, false, false, false] rfl rfl (any_of HT_.out (by kernel_rfl)) (fun _ _ _ h => h) (Or.inl ⟨by rfl, ?_⟩) ?_ ?_
            rotate_left
            · intro w'
              go_simp
              with_reducible rfl
            rotate_left
            · simp only [Act.put, List.setIfInBounds_toArray, List.set_cons_zero, List.set_cons_succ, i64_w, i32_w]
              rfl
            refine pure_ (i := 13) (N := some 38) (v := ?_) (a' := ?_) #[true, false, true, false, true, true, true, false, false, false, true, false, true, true, false, false, false, false, false, false, false, false, false, false, false, false, false, false, false, false, false, false, false, false, false, false, false, false, false, false, false, false, false, false] rfl rfl (any_of HT_.out (by kernel_rfl)) (fun _ _ _ h => h) (Or.inl ⟨by rfl, ?_⟩) ?_ ?_
            rotate_left
            · intro w'
              go_simp
              with_reducible rfl
            rotate_left
            · simp only [Act.put, List.setIfInBounds_toArray, List.set_cons_zero, List.set_cons_succ, i64_w, i32_w]
              rfl
            refine pure_ (i := 14) (N := some 39) (v := ?_) (a' := ?_) #[true, false, true, false, true, true, true, false, false, false, true, false, true, true, true, false, false, false, false, false, false, false, false, false, false, false, false, false, false, false, false, false, false, false, false, false, false, false, false, false, false, false, false, false] rfl rfl (any_of HT_.out (by kernel_rfl)) (fun _ _ _ h => h) (Or.inl ⟨by rfl, ?_⟩) ?_ ?_
            rotate_left
            · intro w'
              go_simp
              with_reducible rfl
            rotate_left
            · simp only [Act.put, List.setIfInBounds_toArray, List.set_cons_zero, List.set_cons_succ, i64_w, i32_w]
              rfl
            refine pure_ (i := 15) (N := some 40) (v := ?_) (a' := ?_) #[true, false, true, false, true, true, true, false, false, false, true, false, true, true, true, true, false, false, false, false, false, false, false, false, false, false, false, false, false, false, false, false, false, false, false, false, false, false, false, false, false, false, false, false] rfl rfl (any_of HT_.out (by kernel_rfl)) (fun _ _ _ h => h) (Or.inl ⟨by rfl, ?_⟩) ?_ ?_
            rotate_left
            · intro w'
              go_simp
              with_reducible rfl
            rotate_left
            · simp only [Act.put, List.setIfInBounds_toArray, List.set_cons_zero, List.set_cons_succ, i64_w, i32_w]
              rfl
            refine pure_ (i := 19) (N := some 44) (v := ?_) (a' := ?_) #[true, false, true, false, true, true, true, false, false, false, true, false, true, true, true, true, false, false, false, true, false, false, false, false, false, false, false, false, false, false, false, false, false, false, false, false, false, false, false, false, false, false, false, false] rfl rfl (any_of HT_.out (by kernel_rfl)) (fun _ _ _ h => h) (Or.inl ⟨by rfl, ?_⟩) ?_ ?_
            rotate_left
            · intro w'
              go_simp
              with_reducible rfl
            rotate_left
            · simp only [Act.put, List.setIfInBounds_toArray, List.set_cons_zero, List.set_cons_succ, i64_w, i32_w]
              rfl
            refine pure_ (i := 21) (N := some 46) (v := ?_) (a' := ?_) #[true, false, true, false, true, true, true, false, false, false, true, false, true, true, true, true, false, false, false, true, false, true, false, false, false, false, false, false, false, false, false, false, false, false, false, false, false, false, false, false, false, false, false, false] rfl rfl (any_of HT_.out (by kernel_rfl)) (fun _ _ _ h => h) (Or.inl ⟨by rfl, ?_⟩) ?_ ?_
            rotate_left
            · intro w'
              go_simp
              with_reducible rfl
            rotate_left
            · simp only [Act.put, List.setIfInBounds_toArray, List.set_cons_zero, List.set_cons_succ, i64_w, i32_w]
              rfl
            refine pure_ (i := 23) (N := some 48) (v := ?_) (a' := ?_) #[true, false, true, false, true, true, true, false, false, false, true, false, true, true, true, true, false, false, false, true, false, true, false, true, false, false, false, false, false, false, false, false, false, false, false, false, false, false, false, false, false, false, false, false] rfl rfl (any_of HT_.out (by kernel_rfl)) (fun _ _ _ h => h) (Or.inl ⟨by rfl, ?_⟩) ?_ ?_
            rotate_left
            · intro w'
              go_simp
              with_reducible rfl
            rotate_left
            · simp only [Act.put, List.setIfInBounds_toArray, List.set_cons_zero, List.set_cons_succ, i64_w, i32_w]
              rfl
            refine pure_ (i := 24) (N := some 49) (v := ?_) (a' := ?_) #[true, false, true, false, true, true, true, false, false, false, true, false, true, true, true, true, false, false, false, true, false, true, false, true, true, false, false, false, false, false, false, false, false, false, false, false, false, false, false, false, false, false, false, false] rfl rfl (any_of HT_.out (by kernel_rfl)) (fun _ _ _ h => h) (Or.inl ⟨by rfl, ?_⟩) ?_ ?_
            rotate_left
            · intro w'
              go_simp
              with_reducible rfl
            rotate_left
            · simp only [Act.put, List.setIfInBounds_toArray, List.set_cons_zero, List.set_cons_succ, i64_w, i32_w]
              rfl
            refine pure_ (i := 25) (N := some 50) (v := ?_) (a' := ?_) #[true, false, true, false, true, true, true, false, false, false, true, false, true, true, true, true, false, false, false, true, false, true, false, true, true, true, false, false, false, false, false, false, false, false, false, false, false, false, false, false, false, false, false, false] rfl rfl (any_of HT_.out (by kernel_rfl)) (fun _ _ _ h => h) (Or.inl ⟨by rfl, ?_⟩) ?_ ?_
            rotate_left
            · intro w'
              go_simp
              with_reducible rfl
            rotate_left
            · simp only [Act.put, List.setIfInBounds_toArray, List.set_cons_zero, List.set_cons_succ, i64_w, i32_w]
              rfl
            refine pure_ (i := 26) (N := some 51) (v := ?_) (a' := ?_) #[true, false, true, false, true, true, true, false, false, false, true, false, true, true, true, true, false, false, false, true, false, true, false, true, true, true, true, false, false, false, false, false, false, false, false, false, false, false, false, false, false, false, false, false] rfl rfl (any_of HT_.out (by kernel_rfl)) (fun _ _ _ h => h) (Or.inl ⟨by rfl, ?_⟩) ?_ ?_
            rotate_left
            · intro w'
              go_simp
              with_reducible rfl
            rotate_left
            · simp only [Act.put, List.setIfInBounds_toArray, List.set_cons_zero, List.set_cons_succ, i64_w, i32_w]
              rfl
            refine pure_ (i := 30) (N := some 55) (v := ?_) (a' := ?_) #[true, false, true, false, true, true, true, false, false, false, true, false, true, true, true, true, false, false, false, true, false, true, false, true, true, true, true, false, false, false, true, false, false, false, false, false, false, false, false, false, false, false, false, false] rfl rfl (any_of HT_.out (by kernel_rfl)) (fun _ _ _ h => h) (Or.inl ⟨by rfl, ?_⟩) ?_ ?_
            rotate_left
            · intro w'
              go_simp
              with_reducible rfl
            rotate_left
            · simp only [Act.put, List.setIfInBounds_toArray, List.set_cons_zero, List.set_cons_succ, i64_w, i32_w]
              rfl
            refine pure_ (i := 32) (N := some 57) (v := ?_) (a' := ?_) #[true, false, true, false, true, true, true, false, false, false, true, false, true, true, true, true, false, false, false, true, false, true, false, true, true, true, true, false, false, false, true, false, true, false, false, false, false, false, false, false, false, false, false, false] rfl rfl (any_of HT_.out (by kernel_rfl)) (fun _ _ _ h => h) (Or.inl ⟨by rfl, ?_⟩) ?_ ?_
            rotate_left
            · intro w'
              go_simp
              with_reducible rfl
            rotate_left
            · simp only [Act.put, List.setIfInBounds_toArray, List.set_cons_zero, List.set_cons_succ, i64_w, i32_w]
              rfl
            refine pure_ (i := 33) (N := some 58) (v := ?_) (a' := ?_) #[true, false, true, false, true, true, true, false, false, false, true, false, true, true, true, true, false, false, false, true, false, true, false, true, true, true, true, false, false, false, true, false, true, true, false, false, false, false, false, false, false, false, false, false] rfl rfl (any_of HT_.out (by kernel_rfl)) (fun _ _ _ h => h) (Or.inl ⟨by rfl, ?_⟩) ?_ ?_
            rotate_left
            · intro w'
              go_simp
              with_reducible rfl
            rotate_left
            · simp only [Act.put, List.setIfInBounds_toArray, List.set_cons_zero, List.set_cons_succ, i64_w, i32_w]
              rfl
            refine pure_ (i := 34) (N := some 59) (v := ?_) (a' := ?_) #[true, false, true, false, true, true, true, false, false, false, true, false, true, true, true, true, false, false, false, true, false, true, false, true, true, true, true, false, false, false, true, false, true, true, true, false, false, false, false, false, false, false, false, false] rfl rfl (any_of HT_.out (by kernel_rfl)) (fun _ _ _ h => h) (Or.inl ⟨by rfl, ?_⟩) ?_ ?_
            rotate_left
            · intro w'
              go_simp
              with_reducible rfl
            rotate_left
            · simp only [Act.put, List.setIfInBounds_toArray, List.set_cons_zero, List.set_cons_succ, i64_w, i32_w]
              rfl
            refine pure_ (i := 35) (N := some 60) (v := ?_) (a' := ?_) #[true, false, true, false, true, true, true, false, false, false, true, false, true, true, true, true, false, false, false, true, false, true, false, true, true, true, true, false, false, false, true, false, true, true, true, true, false, false, false, false, false, false, false, false] rfl rfl (any_of HT_.out (by kernel_rfl)) (fun _ _ _ h => h) (Or.inl ⟨by rfl, ?_⟩) ?_ ?_
            rotate_left
            · intro w'
              go_simp
              with_reducible rfl
            rotate_left
            · simp only [Act.put, List.setIfInBounds_toArray, List.set_cons_zero, List.set_cons_succ, i64_w, i32_w]
              rfl
            refine take_ (i := 1) (N := some 26) (v := ?_) (a' := ?_) #[true, true, true, false, true, true, true, false, false, false, true, false, true, true, true, true, false, false, false, true, false, true, false, true, true, true, true, false, false, false, true, false, true, true, true, true, false, false, false, false, false, false, false, false] rfl rfl (take_ofW HT_.out HW_.out (by kernel_rfl)) (fun _ _ _ h => h) (Or.inl ⟨by rfl, ?_⟩) hHeld ?_ ?_
            rotate_left
            · rintro w' ⟨s0, s1, s2, s3, s4, s5, s6, s7, s8, s9, s10, s11, s12⟩
              go_simp
              with_reducible rfl
            rotate_left
            · simp only [Act.put, List.setIfInBounds_toArray, List.set_cons_zero, List.set_cons_succ, i64_w, i32_w]
              rfl
            refine take_ (i := 3) (N := some 28) (v := ?_) (a' := ?_) #[true, true, true, true, true, true, true, false, false, false, true, false, true, true, true, true, false, false, false, true, false, true, false, true, true, true, true, false, false, false, true, false, true, true, true, true, false, false, false, false, false, false, false, false] rfl rfl (take_ofW HT_.out HW_.out (by kernel_rfl)) (fun _ _ _ h => h) (Or.inl ⟨by rfl, ?_⟩) hHeld ?_ ?_
            rotate_left
            · rintro w' ⟨s0, s1, s2, s3, s4, s5, s6, s7, s8, s9, s10, s11, s12⟩
              go_simp
              with_reducible rfl
            rotate_left
            · simp only [Act.put, List.setIfInBounds_toArray, List.set_cons_zero, List.set_cons_succ, i64_w, i32_w]
              rfl
            refine take_ (i := 11) (N := some 36) (v := ?_) (a' := ?_) #[true, true, true, true, true, true, true, false, false, false, true, true, true, true, true, true, false, false, false, true, false, true, false, true, true, true, true, false, false, false, true, false, true, true, true, true, false, false, false, false, false, false, false, false] rfl rfl (take_ofW HT_.out HW_.out (by kernel_rfl)) (fun _ _ _ h => h) (Or.inl ⟨by rfl, ?_⟩) hHeld ?_ ?_
            rotate_left
            · rintro w' ⟨s0, s1, s2, s3, s4, s5, s6, s7, s8, s9, s10, s11, s12⟩
              go_simp
              with_reducible rfl
            rotate_left
            · simp only [Act.put, List.setIfInBounds_toArray, List.set_cons_zero, List.set_cons_succ, i64_w, i32_w]
              rfl
            refine take_ (i := 20) (N := some 45) (v := ?_) (a' := ?_) #[true, true, true, true, true, true, true, false, false, false, true, true, true, true, true, true, false, false, false, true, true, true, false, true, true, true, true, false, false, false, true, false, true, true, true, true, false, false, false, false, false, false, false, false] rfl rfl (take_ofW HT_.out HW_.out (by kernel_rfl)) (fun _ _ _ h => h) (Or.inl ⟨by rfl, ?_⟩) hHeld ?_ ?_
            rotate_left
            · rintro w' ⟨s0, s1, s2, s3, s4, s5, s6, s7, s8, s9, s10, s11, s12⟩
              go_simp
              with_reducible rfl
            rotate_left
            · simp only [Act.put, List.setIfInBounds_toArray, List.set_cons_zero, List.set_cons_succ, i64_w, i32_w]
              rfl
            refine take_ (i := 22) (N := some 47) (v := ?_) (a' := ?_) #[true, true, true, true, true, true, true, false, false, false, true, true, true, true, true, true, false, false, false, true, true, true, true, true, true, true, true, false, false, false, true, false, true, true, true, true, false, false, false, false, false, false, false, false] rfl rfl (take_ofW HT_.out HW_.out (by kernel_rfl)) (fun _ _ _ h => h) (Or.inl ⟨by rfl, ?_⟩) hHeld ?_ ?_
            rotate_left
            · rintro w' ⟨s0, s1, s2, s3, s4, s5, s6, s7, s8, s9, s10, s11, s12⟩
              go_simp
              with_reducible rfl
            rotate_left
            · simp only [Act.put, List.setIfInBounds_toArray, List.set_cons_zero, List.set_cons_succ, i64_w, i32_w]
              rfl
            refine take_ (i := 31) (N := some 56) (v := ?_) (a' := ?_) #[true, true, true, true, true, true, true, false, false, false, true, true, true, true, true, true, false, false, false, true, true, true, true, true, true, true, true, false, false, false, true, true, true, true, true, true, false, false, false, false, false, false, false, false] rfl rfl (take_ofW HT_.out HW_.out (by kernel_rfl)) (fun _ _ _ h => h) (Or.inl ⟨by rfl, ?_⟩) hHeld ?_ ?_
            rotate_left
            · rintro w' ⟨s0, s1, s2, s3, s4, s5, s6, s7, s8, s9, s10, s11, s12⟩
              go_simp
              with_reducible rfl
            rotate_left
            · simp only [Act.put, List.setIfInBounds_toArray, List.set_cons_zero, List.set_cons_succ, i64_w, i32_w]
              rfl
            refine one_ (i := 7) (N := some 32) #[true, true, true, true, true, true, true, true, false, false, true, true, true, true, true, true, false, false, false, true, true, true, true, true, true, true, true, false, false, false, true, true, true, true, true, true, false, false, false, false, false, false, false, false] rfl rfl (one_of HT_.out (by kernel_rfl)) (by decide) (fun K hK => ?_)
            refine goes_ Try.func30 (by kernel_rfl) rfl #[.slice A1 l1.length c1, .int .i64 (wrap64 (4 * x6_1))] (by rfl) rfl rfl (by (try simp only [List.map_toArray, List.map_cons, List.map_nil]); first | done | rfl | (simp only [List.length_drop, List.length_take]; rfl)) ?_
            with_reducible refine (culletlaw05_at.calls _ _ l1 (wrap64 (4 * x6_1)) t495 _ ?side1 ?side2 A13.out).mono ?_
            (case side1 => repeat (first | exact (Kd.C_below HR1.out HB.out) | (with_reducible refine Kd.C_alloc ?_ _) | (with_reducible refine Kd.C_drewN ?_ _) | (with_reducible refine Kd.C_drew ?_)))
            (case side2 => exact HC1.out)
            rintro e w' ⟨rfl, ⟨nd, rfl⟩⟩
            refine ⟨_, rfl, ?_⟩
            refine hK.out _ _ ⟨(blk_cell BK492.out 0).trans rfl, (blk_cell BK492.out 1).trans rfl, (blk_cell BK492.out 2).trans rfl, (blk_cell BK494.out 0).trans rfl, (blk_cell BK494.out 1).trans rfl, (blk_cell BK494.out 2).trans rfl, (blk_cell BK494.out 3).trans rfl, (blk_cell BK494.out 4).trans rfl, (blk_cell BK494.out 5).trans rfl, (blk_cell BK494.out 6).trans rfl, (blk_cell BK494.out 7).trans rfl, (blk_cell BK494.out 8).trans rfl, (blk_cell BK494.out 9).trans rfl⟩ (fun hHeld => ?_)
            clear hK K
            refine norm_ (a' := ?_) ?_ ?_
            rotate_left
            · show Act.put _ (some 32) _ = _
              simp only [Act.put, List.setIfInBounds_toArray, List.set_cons_zero, List.set_cons_succ, i64_w, i32_w]
              rfl
            refine one_ (i := 8) (N := some 33) #[true, true, true, true, true, true, true, true, true, false, true, true, true, true, true, true, false, false, false, true, true, true, true, true, true, true, true, false, false, false, true, true, true, true, true, true, false, false, false, false, false, false, false, false] rfl rfl (one_of HT_.out (by kernel_rfl)) (by decide) (fun K hK => ?_)
            refine goes_ Try.func40 (by kernel_rfl) rfl #[.agg #[.int .i64 ((rd_T82 l0_0 x6_1).f0.f0), .int .i64 ((rd_T82 l0_0 x6_1).f0.f1)], .int .u8 t495] (by rfl) rfl rfl (by (try simp only [List.map_toArray, List.map_cons, List.map_nil]); first | done | rfl | (simp only [List.length_drop, List.length_take]; rfl)) ?_
            with_reducible refine (culletlaw05_pick.calls ((rd_T82 l0_0 x6_1).f0.f0) ((rd_T82 l0_0 x6_1).f0.f1) t495 t496 _ A14.out).mono ?_
            rintro e w36 ⟨rfl, hb⟩
            refine ⟨_, rfl, ?_⟩
            have n0_ := Aside0.mk (Kd.R_below (by (with_reducible repeat (first | apply Kd.R_alloc | apply Kd.R_drewN | apply Kd.R_drew)); exact HO_493000.out) hb)
            have n1_ := Aside0.mk (blk_below (g := gb490) (o := .cells #[.slice (some ad493) l0_0.length c0_0, .int .i64 a0_1, .int .i64 a0_2] 24 (0, 0)) (by (with_reducible repeat (first | refine blk_drewN ?_ _ | refine blk_drew ?_ | refine blk_alloc ?_ _)); exact BK490.out) hb)
            have n2_ := Aside0.mk (blk_below (g := gb491) (o := .cells #[.slice none 0 0, .int .i64 0, .int .i64 0] 24 (0, 0)) (by (with_reducible repeat (first | refine blk_drewN ?_ _ | refine blk_drew ?_ | refine blk_alloc ?_ _)); exact BK491.out) hb)
            have n3_ := Aside0.mk (blk_below (g := gb492) (o := .cells #[u493000, .int .i64 a0_1, .int .i64 a0_2] 24 (0, 0)) (by (with_reducible repeat (first | refine blk_drewN ?_ _ | refine blk_drew ?_ | refine blk_alloc ?_ _)); exact BK492.out) hb)
            have n4_ := Aside0.mk (blk_below (g := gb494) (o := .cells #[.int .i64 ((rd_T82 l0_0 x6_1).f0.f0), .int .i64 ((rd_T82 l0_0 x6_1).f0.f1), .int .i64 ((rd_T82 l0_0 x6_1).f1.f0), .int .i64 ((rd_T82 l0_0 x6_1).f1.f1), .int .i64 ((rd_T82 l0_0 x6_1).f2.f0), .int .i64 ((rd_T82 l0_0 x6_1).f2.f1), .int .i64 ((rd_T82 l0_0 x6_1).f3.f0), .int .i64 ((rd_T82 l0_0 x6_1).f3.f1), .int .i64 ((rd_T82 l0_0 x6_1).f4.f0), .int .i64 ((rd_T82 l0_0 x6_1).f4.f1)] 82 (0, 0)) (by (with_reducible repeat (first | refine blk_drewN ?_ _ | refine blk_drew ?_ | refine blk_alloc ?_ _)); exact BK494.out) hb)
            have n5_ := Aside0.mk (below_step (by repeat (first | (with_reducible first | exact HB.out | apply below_alloc | apply pw_below_drewN | apply below_drew1 | refine below_set ?_ GE490.out | refine below_set ?_ GE491.out | refine below_set ?_ GE492.out | refine below_set ?_ GE494.out) | exact HB.out)) hb)
            clear HO_493000
            clear BK490
            clear BK491
            clear BK492
            clear BK494
            clear HB
            have HO_493000 := n0_
            have BK490 := n1_
            have BK491 := n2_
            have BK492 := n3_
            have BK494 := n4_
            have HB := n5_
            clear n0_ n1_ n2_ n3_ n4_ n5_
            (try clear hb)
            (try clear hb2)
            (try clear hk)
            (try clear hi)
            refine hK.out _ _ ⟨(blk_cell BK492.out 0).trans rfl, (blk_cell BK492.out 1).trans rfl, (blk_cell BK492.out 2).trans rfl, (blk_cell BK494.out 0).trans rfl, (blk_cell BK494.out 1).trans rfl, (blk_cell BK494.out 2).trans rfl, (blk_cell BK494.out 3).trans rfl, (blk_cell BK494.out 4).trans rfl, (blk_cell BK494.out 5).trans rfl, (blk_cell BK494.out 6).trans rfl, (blk_cell BK494.out 7).trans rfl, (blk_cell BK494.out 8).trans rfl, (blk_cell BK494.out 9).trans rfl⟩ (fun hHeld => ?_)
            clear hK K
            refine norm_ (a' := ?_) ?_ ?_
            rotate_left
            · show Act.put _ (some 33) _ = _
              simp only [Act.put, List.setIfInBounds_toArray, List.set_cons_zero, List.set_cons_succ, i64_w, i32_w]
              rfl
            refine one_ (i := 9) (N := some 34) #[true, true, true, true, true, true, true, true, true, true, true, true, true, true, true, true, false, false, false, true, true, true, true, true, true, true, true, false, false, false, true, true, true, true, true, true, false, false, false, false, false, false, false, false] rfl rfl (one_of HT_.out (by kernel_rfl)) (by decide) (fun K hK => ?_)
            refine goes_ Try.func32 (by kernel_rfl) rfl #[.int .i64 t496] (by rfl) rfl rfl (by (try simp only [List.map_toArray, List.map_cons, List.map_nil]); first | done | rfl | (simp only [List.length_drop, List.length_take]; rfl)) ?_
            with_reducible refine (culletlaw05_exact.calls t496 t497 t498 _ A15.out).mono ?_
            rintro e w37 ⟨rfl, hb⟩
            refine ⟨_, rfl, ?_⟩
            have n0_ := Aside0.mk (Kd.R_below (by (with_reducible repeat (first | apply Kd.R_alloc | apply Kd.R_drewN | apply Kd.R_drew)); exact HO_493000.out) hb)
            have n1_ := Aside0.mk (blk_below (g := gb490) (o := .cells #[.slice (some ad493) l0_0.length c0_0, .int .i64 a0_1, .int .i64 a0_2] 24 (0, 0)) (by (with_reducible repeat (first | refine blk_drewN ?_ _ | refine blk_drew ?_ | refine blk_alloc ?_ _)); exact BK490.out) hb)
            have n2_ := Aside0.mk (blk_below (g := gb491) (o := .cells #[.slice none 0 0, .int .i64 0, .int .i64 0] 24 (0, 0)) (by (with_reducible repeat (first | refine blk_drewN ?_ _ | refine blk_drew ?_ | refine blk_alloc ?_ _)); exact BK491.out) hb)
            have n3_ := Aside0.mk (blk_below (g := gb492) (o := .cells #[u493000, .int .i64 a0_1, .int .i64 a0_2] 24 (0, 0)) (by (with_reducible repeat (first | refine blk_drewN ?_ _ | refine blk_drew ?_ | refine blk_alloc ?_ _)); exact BK492.out) hb)
            have n4_ := Aside0.mk (blk_below (g := gb494) (o := .cells #[.int .i64 ((rd_T82 l0_0 x6_1).f0.f0), .int .i64 ((rd_T82 l0_0 x6_1).f0.f1), .int .i64 ((rd_T82 l0_0 x6_1).f1.f0), .int .i64 ((rd_T82 l0_0 x6_1).f1.f1), .int .i64 ((rd_T82 l0_0 x6_1).f2.f0), .int .i64 ((rd_T82 l0_0 x6_1).f2.f1), .int .i64 ((rd_T82 l0_0 x6_1).f3.f0), .int .i64 ((rd_T82 l0_0 x6_1).f3.f1), .int .i64 ((rd_T82 l0_0 x6_1).f4.f0), .int .i64 ((rd_T82 l0_0 x6_1).f4.f1)] 82 (0, 0)) (by (with_reducible repeat (first | refine blk_drewN ?_ _ | refine blk_drew ?_ | refine blk_alloc ?_ _)); exact BK494.out) hb)
            have n5_ := Aside0.mk (below_step (by repeat (first | (with_reducible first | exact HB.out | apply below_alloc | apply pw_below_drewN | apply below_drew1 | refine below_set ?_ GE490.out | refine below_set ?_ GE491.out | refine below_set ?_ GE492.out | refine below_set ?_ GE494.out) | exact HB.out)) hb)
            clear HO_493000
            clear BK490
            clear BK491
            clear BK492
            clear BK494
            clear HB
            have HO_493000 := n0_
            have BK490 := n1_
            have BK491 := n2_
            have BK492 := n3_
            have BK494 := n4_
            have HB := n5_
            clear n0_ n1_ n2_ n3_ n4_ n5_
            (try clear hb)
            (try clear hb2)
            (try clear hk)
            (try clear hi)
            refine hK.out _ _ ⟨(blk_cell BK492.out 0).trans rfl, (blk_cell BK492.out 1).trans rfl, (blk_cell BK492.out 2).trans rfl, (blk_cell BK494.out 0).trans rfl, (blk_cell BK494.out 1).trans rfl, (blk_cell BK494.out 2).trans rfl, (blk_cell BK494.out 3).trans rfl, (blk_cell BK494.out 4).trans rfl, (blk_cell BK494.out 5).trans rfl, (blk_cell BK494.out 6).trans rfl, (blk_cell BK494.out 7).trans rfl, (blk_cell BK494.out 8).trans rfl, (blk_cell BK494.out 9).trans rfl⟩ (fun hHeld => ?_)
            clear hK K
            refine norm_ (a' := ?_) ?_ ?_
            rotate_left
            · show Act.put _ (some 34) _ = _
              simp only [Act.put, List.setIfInBounds_toArray, List.set_cons_zero, List.set_cons_succ, i64_w, i32_w]
              rfl
            refine one_ (i := 16) (N := some 41) #[true, true, true, true, true, true, true, true, true, true, true, true, true, true, true, true, true, false, false, true, true, true, true, true, true, true, true, false, false, false, true, true, true, true, true, true, false, false, false, false, false, false, false, false] rfl rfl (one_of HT_.out (by kernel_rfl)) (by decide) (fun K hK => ?_)
            refine goes_ Try.func30 (by kernel_rfl) rfl #[.slice A1 l1.length c1, .int .i64 (wrap64 ((wrap64 (4 * x6_1)) + 1))] (by rfl) rfl rfl (by (try simp only [List.map_toArray, List.map_cons, List.map_nil]); first | done | rfl | (simp only [List.length_drop, List.length_take]; rfl)) ?_
            with_reducible refine (culletlaw05_at.calls _ _ l1 (wrap64 ((wrap64 (4 * x6_1)) + 1)) t499 _ ?side1 ?side2 A16.out).mono ?_
            (case side1 => repeat (first | exact (Kd.C_below HR1.out HB.out) | (with_reducible refine Kd.C_alloc ?_ _) | (with_reducible refine Kd.C_drewN ?_ _) | (with_reducible refine Kd.C_drew ?_)))
            (case side2 => exact HC1.out)
            rintro e w' ⟨rfl, ⟨nd, rfl⟩⟩
            refine ⟨_, rfl, ?_⟩
            refine hK.out _ _ ⟨(blk_cell BK492.out 0).trans rfl, (blk_cell BK492.out 1).trans rfl, (blk_cell BK492.out 2).trans rfl, (blk_cell BK494.out 0).trans rfl, (blk_cell BK494.out 1).trans rfl, (blk_cell BK494.out 2).trans rfl, (blk_cell BK494.out 3).trans rfl, (blk_cell BK494.out 4).trans rfl, (blk_cell BK494.out 5).trans rfl, (blk_cell BK494.out 6).trans rfl, (blk_cell BK494.out 7).trans rfl, (blk_cell BK494.out 8).trans rfl, (blk_cell BK494.out 9).trans rfl⟩ (fun hHeld => ?_)
            clear hK K
            refine norm_ (a' := ?_) ?_ ?_
            rotate_left
            · show Act.put _ (some 41) _ = _
              simp only [Act.put, List.setIfInBounds_toArray, List.set_cons_zero, List.set_cons_succ, i64_w, i32_w]
              rfl
            refine one_ (i := 17) (N := some 42) #[true, true, true, true, true, true, true, true, true, true, true, true, true, true, true, true, true, true, false, true, true, true, true, true, true, true, true, false, false, false, true, true, true, true, true, true, false, false, false, false, false, false, false, false] rfl rfl (one_of HT_.out (by kernel_rfl)) (by decide) (fun K hK => ?_)
            refine goes_ Try.func40 (by kernel_rfl) rfl #[.agg #[.int .i64 ((rd_T82 l0_0 x6_1).f1.f0), .int .i64 ((rd_T82 l0_0 x6_1).f1.f1)], .int .u8 t499] (by rfl) rfl rfl (by (try simp only [List.map_toArray, List.map_cons, List.map_nil]); first | done | rfl | (simp only [List.length_drop, List.length_take]; rfl)) ?_
            with_reducible refine (culletlaw05_pick.calls ((rd_T82 l0_0 x6_1).f1.f0) ((rd_T82 l0_0 x6_1).f1.f1) t499 t500 _ A17.out).mono ?_
            rintro e w38 ⟨rfl, hb⟩
            refine ⟨_, rfl, ?_⟩
            have n0_ := Aside0.mk (Kd.R_below (by (with_reducible repeat (first | apply Kd.R_alloc | apply Kd.R_drewN | apply Kd.R_drew)); exact HO_493000.out) hb)
            have n1_ := Aside0.mk (blk_below (g := gb490) (o := .cells #[.slice (some ad493) l0_0.length c0_0, .int .i64 a0_1, .int .i64 a0_2] 24 (0, 0)) (by (with_reducible repeat (first | refine blk_drewN ?_ _ | refine blk_drew ?_ | refine blk_alloc ?_ _)); exact BK490.out) hb)
            have n2_ := Aside0.mk (blk_below (g := gb491) (o := .cells #[.slice none 0 0, .int .i64 0, .int .i64 0] 24 (0, 0)) (by (with_reducible repeat (first | refine blk_drewN ?_ _ | refine blk_drew ?_ | refine blk_alloc ?_ _)); exact BK491.out) hb)
            have n3_ := Aside0.mk (blk_below (g := gb492) (o := .cells #[u493000, .int .i64 a0_1, .int .i64 a0_2] 24 (0, 0)) (by (with_reducible repeat (first | refine blk_drewN ?_ _ | refine blk_drew ?_ | refine blk_alloc ?_ _)); exact BK492.out) hb)
            have n4_ := Aside0.mk (blk_below (g := gb494) (o := .cells #[.int .i64 ((rd_T82 l0_0 x6_1).f0.f0), .int .i64 ((rd_T82 l0_0 x6_1).f0.f1), .int .i64 ((rd_T82 l0_0 x6_1).f1.f0), .int .i64 ((rd_T82 l0_0 x6_1).f1.f1), .int .i64 ((rd_T82 l0_0 x6_1).f2.f0), .int .i64 ((rd_T82 l0_0 x6_1).f2.f1), .int .i64 ((rd_T82 l0_0 x6_1).f3.f0), .int .i64 ((rd_T82 l0_0 x6_1).f3.f1), .int .i64 ((rd_T82 l0_0 x6_1).f4.f0), .int .i64 ((rd_T82 l0_0 x6_1).f4.f1)] 82 (0, 0)) (by (with_reducible repeat (first | refine blk_drewN ?_ _ | refine blk_drew ?_ | refine blk_alloc ?_ _)); exact BK494.out) hb)
            have n5_ := Aside0.mk (below_step (by repeat (first | (with_reducible first | exact HB.out | apply below_alloc | apply pw_below_drewN | apply below_drew1 | refine below_set ?_ GE490.out | refine below_set ?_ GE491.out | refine below_set ?_ GE492.out | refine below_set ?_ GE494.out) | exact HB.out)) hb)
            clear HO_493000
            clear BK490
            clear BK491
            clear BK492
            clear BK494
            clear HB
            have HO_493000 := n0_
            have BK490 := n1_
            have BK491 := n2_
            have BK492 := n3_
            have BK494 := n4_
            have HB := n5_
            clear n0_ n1_ n2_ n3_ n4_ n5_
            (try clear hb)
            (try clear hb2)
            (try clear hk)
            (try clear hi)
            refine hK.out _ _ ⟨(blk_cell BK492.out 0).trans rfl, (blk_cell BK492.out 1).trans rfl, (blk_cell BK492.out 2).trans rfl, (blk_cell BK494.out 0).trans rfl, (blk_cell BK494.out 1).trans rfl, (blk_cell BK494.out 2).trans rfl, (blk_cell BK494.out 3).trans rfl, (blk_cell BK494.out 4).trans rfl, (blk_cell BK494.out 5).trans rfl, (blk_cell BK494.out 6).trans rfl, (blk_cell BK494.out 7).trans rfl, (blk_cell BK494.out 8).trans rfl, (blk_cell BK494.out 9).trans rfl⟩ (fun hHeld => ?_)
            clear hK K
            refine norm_ (a' := ?_) ?_ ?_
            rotate_left
            · show Act.put _ (some 42) _ = _
              simp only [Act.put, List.setIfInBounds_toArray, List.set_cons_zero, List.set_cons_succ, i64_w, i32_w]
              rfl
            refine one_ (i := 18) (N := some 43) #[true, true, true, true, true, true, true, true, true, true, true, true, true, true, true, true, true, true, true, true, true, true, true, true, true, true, true, false, false, false, true, true, true, true, true, true, false, false, false, false, false, false, false, false] rfl rfl (one_of HT_.out (by kernel_rfl)) (by decide) (fun K hK => ?_)
            refine goes_ Try.func32 (by kernel_rfl) rfl #[.int .i64 t500] (by rfl) rfl rfl (by (try simp only [List.map_toArray, List.map_cons, List.map_nil]); first | done | rfl | (simp only [List.length_drop, List.length_take]; rfl)) ?_
            with_reducible refine (culletlaw05_exact.calls t500 t501 t502 _ A18.out).mono ?_
            rintro e w39 ⟨rfl, hb⟩
            refine ⟨_, rfl, ?_⟩
            have n0_ := Aside0.mk (Kd.R_below (by (with_reducible repeat (first | apply Kd.R_alloc | apply Kd.R_drewN | apply Kd.R_drew)); exact HO_493000.out) hb)
            have n1_ := Aside0.mk (blk_below (g := gb490) (o := .cells #[.slice (some ad493) l0_0.length c0_0, .int .i64 a0_1, .int .i64 a0_2] 24 (0, 0)) (by (with_reducible repeat (first | refine blk_drewN ?_ _ | refine blk_drew ?_ | refine blk_alloc ?_ _)); exact BK490.out) hb)
            have n2_ := Aside0.mk (blk_below (g := gb491) (o := .cells #[.slice none 0 0, .int .i64 0, .int .i64 0] 24 (0, 0)) (by (with_reducible repeat (first | refine blk_drewN ?_ _ | refine blk_drew ?_ | refine blk_alloc ?_ _)); exact BK491.out) hb)
            have n3_ := Aside0.mk (blk_below (g := gb492) (o := .cells #[u493000, .int .i64 a0_1, .int .i64 a0_2] 24 (0, 0)) (by (with_reducible repeat (first | refine blk_drewN ?_ _ | refine blk_drew ?_ | refine blk_alloc ?_ _)); exact BK492.out) hb)
            have n4_ := Aside0.mk (blk_below (g := gb494) (o := .cells #[.int .i64 ((rd_T82 l0_0 x6_1).f0.f0), .int .i64 ((rd_T82 l0_0 x6_1).f0.f1), .int .i64 ((rd_T82 l0_0 x6_1).f1.f0), .int .i64 ((rd_T82 l0_0 x6_1).f1.f1), .int .i64 ((rd_T82 l0_0 x6_1).f2.f0), .int .i64 ((rd_T82 l0_0 x6_1).f2.f1), .int .i64 ((rd_T82 l0_0 x6_1).f3.f0), .int .i64 ((rd_T82 l0_0 x6_1).f3.f1), .int .i64 ((rd_T82 l0_0 x6_1).f4.f0), .int .i64 ((rd_T82 l0_0 x6_1).f4.f1)] 82 (0, 0)) (by (with_reducible repeat (first | refine blk_drewN ?_ _ | refine blk_drew ?_ | refine blk_alloc ?_ _)); exact BK494.out) hb)
            have n5_ := Aside0.mk (below_step (by repeat (first | (with_reducible first | exact HB.out | apply below_alloc | apply pw_below_drewN | apply below_drew1 | refine below_set ?_ GE490.out | refine below_set ?_ GE491.out | refine below_set ?_ GE492.out | refine below_set ?_ GE494.out) | exact HB.out)) hb)
            clear HO_493000
            clear BK490
            clear BK491
            clear BK492
            clear BK494
            clear HB
            have HO_493000 := n0_
            have BK490 := n1_
            have BK491 := n2_
            have BK492 := n3_
            have BK494 := n4_
            have HB := n5_
            clear n0_ n1_ n2_ n3_ n4_ n5_
            (try clear hb)
            (try clear hb2)
            (try clear hk)
            (try clear hi)
            refine hK.out _ _ ⟨(blk_cell BK492.out 0).trans rfl, (blk_cell BK492.out 1).trans rfl, (blk_cell BK492.out 2).trans rfl, (blk_cell BK494.out 0).trans rfl, (blk_cell BK494.out 1).trans rfl, (blk_cell BK494.out 2).trans rfl, (blk_cell BK494.out 3).trans rfl, (blk_cell BK494.out 4).trans rfl, (blk_cell BK494.out 5).trans rfl, (blk_cell BK494.out 6).trans rfl, (blk_cell BK494.out 7).trans rfl, (blk_cell BK494.out 8).trans rfl, (blk_cell BK494.out 9).trans rfl⟩ (fun hHeld => ?_)
            clear hK K
            refine norm_ (a' := ?_) ?_ ?_
            rotate_left
            · show Act.put _ (some 43) _ = _
              simp only [Act.put, List.setIfInBounds_toArray, List.set_cons_zero, List.set_cons_succ, i64_w, i32_w]
              rfl
            refine one_ (i := 27) (N := some 52) #[true, true, true, true, true, true, true, true, true, true, true, true, true, true, true, true, true, true, true, true, true, true, true, true, true, true, true, true, false, false, true, true, true, true, true, true, false, false, false, false, false, false, false, false] rfl rfl (one_of HT_.out (by kernel_rfl)) (by decide) (fun K hK => ?_)
            refine goes_ Try.func30 (by kernel_rfl) rfl #[.slice A1 l1.length c1, .int .i64 (wrap64 ((wrap64 (4 * x6_1)) + 2))] (by rfl) rfl rfl (by (try simp only [List.map_toArray, List.map_cons, List.map_nil]); first | done | rfl | (simp only [List.length_drop, List.length_take]; rfl)) ?_
            with_reducible refine (culletlaw05_at.calls _ _ l1 (wrap64 ((wrap64 (4 * x6_1)) + 2)) t503 _ ?side1 ?side2 A19.out).mono ?_
            (case side1 => repeat (first | exact (Kd.C_below HR1.out HB.out) | (with_reducible refine Kd.C_alloc ?_ _) | (with_reducible refine Kd.C_drewN ?_ _) | (with_reducible refine Kd.C_drew ?_)))
            (case side2 => exact HC1.out)
            rintro e w' ⟨rfl, ⟨nd, rfl⟩⟩
            refine ⟨_, rfl, ?_⟩
            refine hK.out _ _ ⟨(blk_cell BK492.out 0).trans rfl, (blk_cell BK492.out 1).trans rfl, (blk_cell BK492.out 2).trans rfl, (blk_cell BK494.out 0).trans rfl, (blk_cell BK494.out 1).trans rfl, (blk_cell BK494.out 2).trans rfl, (blk_cell BK494.out 3).trans rfl, (blk_cell BK494.out 4).trans rfl, (blk_cell BK494.out 5).trans rfl, (blk_cell BK494.out 6).trans rfl, (blk_cell BK494.out 7).trans rfl, (blk_cell BK494.out 8).trans rfl, (blk_cell BK494.out 9).trans rfl⟩ (fun hHeld => ?_)
            clear hK K
            refine norm_ (a' := ?_) ?_ ?_
            rotate_left
            · show Act.put _ (some 52) _ = _
              simp only [Act.put, List.setIfInBounds_toArray, List.set_cons_zero, List.set_cons_succ, i64_w, i32_w]
              rfl
            refine one_ (i := 28) (N := some 53) #[true, true, true, true, true, true, true, true, true, true, true, true, true, true, true, true, true, true, true, true, true, true, true, true, true, true, true, true, true, false, true, true, true, true, true, true, false, false, false, false, false, false, false, false] rfl rfl (one_of HT_.out (by kernel_rfl)) (by decide) (fun K hK => ?_)
            refine goes_ Try.func40 (by kernel_rfl) rfl #[.agg #[.int .i64 ((rd_T82 l0_0 x6_1).f3.f0), .int .i64 ((rd_T82 l0_0 x6_1).f3.f1)], .int .u8 t503] (by rfl) rfl rfl (by (try simp only [List.map_toArray, List.map_cons, List.map_nil]); first | done | rfl | (simp only [List.length_drop, List.length_take]; rfl)) ?_
            with_reducible refine (culletlaw05_pick.calls ((rd_T82 l0_0 x6_1).f3.f0) ((rd_T82 l0_0 x6_1).f3.f1) t503 t504 _ A20.out).mono ?_
            rintro e w40 ⟨rfl, hb⟩
            refine ⟨_, rfl, ?_⟩
            have n0_ := Aside0.mk (Kd.R_below (by (with_reducible repeat (first | apply Kd.R_alloc | apply Kd.R_drewN | apply Kd.R_drew)); exact HO_493000.out) hb)
            have n1_ := Aside0.mk (blk_below (g := gb490) (o := .cells #[.slice (some ad493) l0_0.length c0_0, .int .i64 a0_1, .int .i64 a0_2] 24 (0, 0)) (by (with_reducible repeat (first | refine blk_drewN ?_ _ | refine blk_drew ?_ | refine blk_alloc ?_ _)); exact BK490.out) hb)
            have n2_ := Aside0.mk (blk_below (g := gb491) (o := .cells #[.slice none 0 0, .int .i64 0, .int .i64 0] 24 (0, 0)) (by (with_reducible repeat (first | refine blk_drewN ?_ _ | refine blk_drew ?_ | refine blk_alloc ?_ _)); exact BK491.out) hb)
            have n3_ := Aside0.mk (blk_below (g := gb492) (o := .cells #[u493000, .int .i64 a0_1, .int .i64 a0_2] 24 (0, 0)) (by (with_reducible repeat (first | refine blk_drewN ?_ _ | refine blk_drew ?_ | refine blk_alloc ?_ _)); exact BK492.out) hb)
            have n4_ := Aside0.mk (blk_below (g := gb494) (o := .cells #[.int .i64 ((rd_T82 l0_0 x6_1).f0.f0), .int .i64 ((rd_T82 l0_0 x6_1).f0.f1), .int .i64 ((rd_T82 l0_0 x6_1).f1.f0), .int .i64 ((rd_T82 l0_0 x6_1).f1.f1), .int .i64 ((rd_T82 l0_0 x6_1).f2.f0), .int .i64 ((rd_T82 l0_0 x6_1).f2.f1), .int .i64 ((rd_T82 l0_0 x6_1).f3.f0), .int .i64 ((rd_T82 l0_0 x6_1).f3.f1), .int .i64 ((rd_T82 l0_0 x6_1).f4.f0), .int .i64 ((rd_T82 l0_0 x6_1).f4.f1)] 82 (0, 0)) (by (with_reducible repeat (first | refine blk_drewN ?_ _ | refine blk_drew ?_ | refine blk_alloc ?_ _)); exact BK494.out) hb)
            have n5_ := Aside0.mk (below_step (by repeat (first | (with_reducible first | exact HB.out | apply below_alloc | apply pw_below_drewN | apply below_drew1 | refine below_set ?_ GE490.out | refine below_set ?_ GE491.out | refine below_set ?_ GE492.out | refine below_set ?_ GE494.out) | exact HB.out)) hb)
            clear HO_493000
            clear BK490
            clear BK491
            clear BK492
            clear BK494
            clear HB
            have HO_493000 := n0_
            have BK490 := n1_
            have BK491 := n2_
            have BK492 := n3_
            have BK494 := n4_
            have HB := n5_
            clear n0_ n1_ n2_ n3_ n4_ n5_
            (try clear hb)
            (try clear hb2)
            (try clear hk)
            (try clear hi)
            refine hK.out _ _ ⟨(blk_cell BK492.out 0).trans rfl, (blk_cell BK492.out 1).trans rfl, (blk_cell BK492.out 2).trans rfl, (blk_cell BK494.out 0).trans rfl, (blk_cell BK494.out 1).trans rfl, (blk_cell BK494.out 2).trans rfl, (blk_cell BK494.out 3).trans rfl, (blk_cell BK494.out 4).trans rfl, (blk_cell BK494.out 5).trans rfl, (blk_cell BK494.out 6).trans rfl, (blk_cell BK494.out 7).trans rfl, (blk_cell BK494.out 8).trans rfl, (blk_cell BK494.out 9).trans rfl⟩ (fun hHeld => ?_)
            clear hK K
            refine norm_ (a' := ?_) ?_ ?_
            rotate_left
            · show Act.put _ (some 53) _ = _
              simp only [Act.put, List.setIfInBounds_toArray, List.set_cons_zero, List.set_cons_succ, i64_w, i32_w]
              rfl
            refine one_ (i := 29) (N := some 54) #[true, true, true, true, true, true, true, true, true, true, true, true, true, true, true, true, true, true, true, true, true, true, true, true, true, true, true, true, true, true, true, true, true, true, true, true, false, false, false, false, false, false, false, false] rfl rfl (one_of HT_.out (by kernel_rfl)) (by decide) (fun K hK => ?_)
            refine goes_ Try.func32 (by kernel_rfl) rfl #[.int .i64 t504] (by rfl) rfl rfl (by (try simp only [List.map_toArray, List.map_cons, List.map_nil]); first | done | rfl | (simp only [List.length_drop, List.length_take]; rfl)) ?_
            with_reducible refine (culletlaw05_exact.calls t504 t505 t506 _ A21.out).mono ?_
            rintro e w41 ⟨rfl, hb⟩
            refine ⟨_, rfl, ?_⟩
            have n0_ := Aside0.mk (Kd.R_below (by (with_reducible repeat (first | apply Kd.R_alloc | apply Kd.R_drewN | apply Kd.R_drew)); exact HO_493000.out) hb)
            have n1_ := Aside0.mk (blk_below (g := gb490) (o := .cells #[.slice (some ad493) l0_0.length c0_0, .int .i64 a0_1, .int .i64 a0_2] 24 (0, 0)) (by (with_reducible repeat (first | refine blk_drewN ?_ _ | refine blk_drew ?_ | refine blk_alloc ?_ _)); exact BK490.out) hb)
            have n2_ := Aside0.mk (blk_below (g := gb491) (o := .cells #[.slice none 0 0, .int .i64 0, .int .i64 0] 24 (0, 0)) (by (with_reducible repeat (first | refine blk_drewN ?_ _ | refine blk_drew ?_ | refine blk_alloc ?_ _)); exact BK491.out) hb)
            have n3_ := Aside0.mk (blk_below (g := gb492) (o := .cells #[u493000, .int .i64 a0_1, .int .i64 a0_2] 24 (0, 0)) (by (with_reducible repeat (first | refine blk_drewN ?_ _ | refine blk_drew ?_ | refine blk_alloc ?_ _)); exact BK492.out) hb)
            have n4_ := Aside0.mk (blk_below (g := gb494) (o := .cells #[.int .i64 ((rd_T82 l0_0 x6_1).f0.f0), .int .i64 ((rd_T82 l0_0 x6_1).f0.f1), .int .i64 ((rd_T82 l0_0 x6_1).f1.f0), .int .i64 ((rd_T82 l0_0 x6_1).f1.f1), .int .i64 ((rd_T82 l0_0 x6_1).f2.f0), .int .i64 ((rd_T82 l0_0 x6_1).f2.f1), .int .i64 ((rd_T82 l0_0 x6_1).f3.f0), .int .i64 ((rd_T82 l0_0 x6_1).f3.f1), .int .i64 ((rd_T82 l0_0 x6_1).f4.f0), .int .i64 ((rd_T82 l0_0 x6_1).f4.f1)] 82 (0, 0)) (by (with_reducible repeat (first | refine blk_drewN ?_ _ | refine blk_drew ?_ | refine blk_alloc ?_ _)); exact BK494.out) hb)
            have n5_ := Aside0.mk (below_step (by repeat (first | (with_reducible first | exact HB.out | apply below_alloc | apply pw_below_drewN | apply below_drew1 | refine below_set ?_ GE490.out | refine below_set ?_ GE491.out | refine below_set ?_ GE492.out | refine below_set ?_ GE494.out) | exact HB.out)) hb)
            clear HO_493000
            clear BK490
            clear BK491
            clear BK492
            clear BK494
            clear HB
            have HO_493000 := n0_
            have BK490 := n1_
            have BK491 := n2_
            have BK492 := n3_
            have BK494 := n4_
            have HB := n5_
            clear n0_ n1_ n2_ n3_ n4_ n5_
            (try clear hb)
            (try clear hb2)
            (try clear hk)
            (try clear hi)
            refine hK.out _ _ ⟨(blk_cell BK492.out 0).trans rfl, (blk_cell BK492.out 1).trans rfl, (blk_cell BK492.out 2).trans rfl, (blk_cell BK494.out 0).trans rfl, (blk_cell BK494.out 1).trans rfl, (blk_cell BK494.out 2).trans rfl, (blk_cell BK494.out 3).trans rfl, (blk_cell BK494.out 4).trans rfl, (blk_cell BK494.out 5).trans rfl, (blk_cell BK494.out 6).trans rfl, (blk_cell BK494.out 7).trans rfl, (blk_cell BK494.out 8).trans rfl, (blk_cell BK494.out 9).trans rfl⟩ (fun hHeld => ?_)
            clear hK K
            refine norm_ (a' := ?_) ?_ ?_
            rotate_left
            · show Act.put _ (some 54) _ = _
              simp only [Act.put, List.setIfInBounds_toArray, List.set_cons_zero, List.set_cons_succ, i64_w, i32_w]
              rfl
            refine one_ (i := 36) (N := some 61) #[true, true, true, true, true, true, true, true, true, true, true, true, true, true, true, true, true, true, true, true, true, true, true, true, true, true, true, true, true, true, true, true, true, true, true, true, true, false, false, false, false, false, false, false] rfl rfl (one_of HT_.out (by kernel_rfl)) (by decide) (fun K hK => ?_)
            refine goes_ Try.func30 (by kernel_rfl) rfl #[.slice A1 l1.length c1, .int .i64 (wrap64 ((wrap64 (4 * x6_1)) + 3))] (by rfl) rfl rfl (by (try simp only [List.map_toArray, List.map_cons, List.map_nil]); first | done | rfl | (simp only [List.length_drop, List.length_take]; rfl)) ?_
            with_reducible refine (culletlaw05_at.calls _ _ l1 (wrap64 ((wrap64 (4 * x6_1)) + 3)) t507 _ ?side1 ?side2 A22.out).mono ?_
            (case side1 => repeat (first | exact (Kd.C_below HR1.out HB.out) | (with_reducible refine Kd.C_alloc ?_ _) | (with_reducible refine Kd.C_drewN ?_ _) | (with_reducible refine Kd.C_drew ?_)))
            (case side2 => exact HC1.out)
            rintro e w' ⟨rfl, ⟨nd, rfl⟩⟩
            refine ⟨_, rfl, ?_⟩
            refine hK.out _ _ ⟨(blk_cell BK492.out 0).trans rfl, (blk_cell BK492.out 1).trans rfl, (blk_cell BK492.out 2).trans rfl, (blk_cell BK494.out 0).trans rfl, (blk_cell BK494.out 1).trans rfl, (blk_cell BK494.out 2).trans rfl, (blk_cell BK494.out 3).trans rfl, (blk_cell BK494.out 4).trans rfl, (blk_cell BK494.out 5).trans rfl, (blk_cell BK494.out 6).trans rfl, (blk_cell BK494.out 7).trans rfl, (blk_cell BK494.out 8).trans rfl, (blk_cell BK494.out 9).trans rfl⟩ (fun hHeld => ?_)
            clear hK K
            refine norm_ (a' := ?_) ?_ ?_
            rotate_left
            · show Act.put _ (some 61) _ = _
              simp only [Act.put, List.setIfInBounds_toArray, List.set_cons_zero, List.set_cons_succ, i64_w, i32_w]
              rfl
            refine one_ (i := 37) (N := some 62) #[true, true, true, true, true, true, true, true, true, true, true, true, true, true, true, true, true, true, true, true, true, true, true, true, true, true, true, true, true, true, true, true, true, true, true, true, true, true, false, false, false, false, false, false] rfl rfl (one_of HT_.out (by kernel_rfl)) (by decide) (fun K hK => ?_)
            refine goes_ Try.func40 (by kernel_rfl) rfl #[.agg #[.int .i64 ((rd_T82 l0_0 x6_1).f4.f0), .int .i64 ((rd_T82 l0_0 x6_1).f4.f1)], .int .u8 t507] (by rfl) rfl rfl (by (try simp only [List.map_toArray, List.map_cons, List.map_nil]); first | done | rfl | (simp only [List.length_drop, List.length_take]; rfl)) ?_
            with_reducible refine (culletlaw05_pick.calls ((rd_T82 l0_0 x6_1).f4.f0) ((rd_T82 l0_0 x6_1).f4.f1) t507 t508 _ A23.out).mono ?_
            rintro e w42 ⟨rfl, hb⟩
            refine ⟨_, rfl, ?_⟩
            have n0_ := Aside0.mk (Kd.R_below (by (with_reducible repeat (first | apply Kd.R_alloc | apply Kd.R_drewN | apply Kd.R_drew)); exact HO_493000.out) hb)
            have n1_ := Aside0.mk (blk_below (g := gb490) (o := .cells #[.slice (some ad493) l0_0.length c0_0, .int .i64 a0_1, .int .i64 a0_2] 24 (0, 0)) (by (with_reducible repeat (first | refine blk_drewN ?_ _ | refine blk_drew ?_ | refine blk_alloc ?_ _)); exact BK490.out) hb)
            have n2_ := Aside0.mk (blk_below (g := gb491) (o := .cells #[.slice none 0 0, .int .i64 0, .int .i64 0] 24 (0, 0)) (by (with_reducible repeat (first | refine blk_drewN ?_ _ | refine blk_drew ?_ | refine blk_alloc ?_ _)); exact BK491.out) hb)
            have n3_ := Aside0.mk (blk_below (g := gb492) (o := .cells #[u493000, .int .i64 a0_1, .int .i64 a0_2] 24 (0, 0)) (by (with_reducible repeat (first | refine blk_drewN ?_ _ | refine blk_drew ?_ | refine blk_alloc ?_ _)); exact BK492.out) hb)
            have n4_ := Aside0.mk (blk_below (g := gb494) (o := .cells #[.int .i64 ((rd_T82 l0_0 x6_1).f0.f0), .int .i64 ((rd_T82 l0_0 x6_1).f0.f1), .int .i64 ((rd_T82 l0_0 x6_1).f1.f0), .int .i64 ((rd_T82 l0_0 x6_1).f1.f1), .int .i64 ((rd_T82 l0_0 x6_1).f2.f0), .int .i64 ((rd_T82 l0_0 x6_1).f2.f1), .int .i64 ((rd_T82 l0_0 x6_1).f3.f0), .int .i64 ((rd_T82 l0_0 x6_1).f3.f1), .int .i64 ((rd_T82 l0_0 x6_1).f4.f0), .int .i64 ((rd_T82 l0_0 x6_1).f4.f1)] 82 (0, 0)) (by (with_reducible repeat (first | refine blk_drewN ?_ _ | refine blk_drew ?_ | refine blk_alloc ?_ _)); exact BK494.out) hb)
            have n5_ := Aside0.mk (below_step (by repeat (first | (with_reducible first | exact HB.out | apply below_alloc | apply pw_below_drewN | apply below_drew1 | refine below_set ?_ GE490.out | refine below_set ?_ GE491.out | refine below_set ?_ GE492.out | refine below_set ?_ GE494.out) | exact HB.out)) hb)
            clear HO_493000
            clear BK490
            clear BK491
            clear BK492
            clear BK494
            clear HB
            have HO_493000 := n0_
            have BK490 := n1_
            have BK491 := n2_
            have BK492 := n3_
            have BK494 := n4_
            have HB := n5_
            clear n0_ n1_ n2_ n3_ n4_ n5_
            (try clear hb)
            (try clear hb2)
            (try clear hk)
            (try clear hi)
            refine hK.out _ _ ⟨(blk_cell BK492.out 0).trans rfl, (blk_cell BK492.out 1).trans rfl, (blk_cell BK492.out 2).trans rfl, (blk_cell BK494.out 0).trans rfl, (blk_cell BK494.out 1).trans rfl, (blk_cell BK494.out 2).trans rfl, (blk_cell BK494.out 3).trans rfl, (blk_cell BK494.out 4).trans rfl, (blk_cell BK494.out 5).trans rfl, (blk_cell BK494.out 6).trans rfl, (blk_cell BK494.out 7).trans rfl, (blk_cell BK494.out 8).trans rfl, (blk_cell BK494.out 9).trans rfl⟩ (fun hHeld => ?_)
            clear hK K
            refine norm_ (a' := ?_) ?_ ?_
            rotate_left
            · show Act.put _ (some 62) _ = _
              simp only [Act.put, List.setIfInBounds_toArray, List.set_cons_zero, List.set_cons_succ, i64_w, i32_w]
              rfl
            refine one_ (i := 38) (N := some 63) #[true, true, true, true, true, true, true, true, true, true, true, true, true, true, true, true, true, true, true, true, true, true, true, true, true, true, true, true, true, true, true, true, true, true, true, true, true, true, true, false, false, false, false, false] rfl rfl (one_of HT_.out (by kernel_rfl)) (by decide) (fun K hK => ?_)
            refine goes_ Try.func32 (by kernel_rfl) rfl #[.int .i64 t508] (by rfl) rfl rfl (by (try simp only [List.map_toArray, List.map_cons, List.map_nil]); first | done | rfl | (simp only [List.length_drop, List.length_take]; rfl)) ?_
            with_reducible refine (culletlaw05_exact.calls t508 t509 t510 _ A24.out).mono ?_
            rintro e w43 ⟨rfl, hb⟩
            refine ⟨_, rfl, ?_⟩
            have n0_ := Aside0.mk (Kd.R_below (by (with_reducible repeat (first | apply Kd.R_alloc | apply Kd.R_drewN | apply Kd.R_drew)); exact HO_493000.out) hb)
            have n1_ := Aside0.mk (blk_below (g := gb490) (o := .cells #[.slice (some ad493) l0_0.length c0_0, .int .i64 a0_1, .int .i64 a0_2] 24 (0, 0)) (by (with_reducible repeat (first | refine blk_drewN ?_ _ | refine blk_drew ?_ | refine blk_alloc ?_ _)); exact BK490.out) hb)
            have n2_ := Aside0.mk (blk_below (g := gb491) (o := .cells #[.slice none 0 0, .int .i64 0, .int .i64 0] 24 (0, 0)) (by (with_reducible repeat (first | refine blk_drewN ?_ _ | refine blk_drew ?_ | refine blk_alloc ?_ _)); exact BK491.out) hb)
            have n3_ := Aside0.mk (blk_below (g := gb492) (o := .cells #[u493000, .int .i64 a0_1, .int .i64 a0_2] 24 (0, 0)) (by (with_reducible repeat (first | refine blk_drewN ?_ _ | refine blk_drew ?_ | refine blk_alloc ?_ _)); exact BK492.out) hb)
            have n4_ := Aside0.mk (blk_below (g := gb494) (o := .cells #[.int .i64 ((rd_T82 l0_0 x6_1).f0.f0), .int .i64 ((rd_T82 l0_0 x6_1).f0.f1), .int .i64 ((rd_T82 l0_0 x6_1).f1.f0), .int .i64 ((rd_T82 l0_0 x6_1).f1.f1), .int .i64 ((rd_T82 l0_0 x6_1).f2.f0), .int .i64 ((rd_T82 l0_0 x6_1).f2.f1), .int .i64 ((rd_T82 l0_0 x6_1).f3.f0), .int .i64 ((rd_T82 l0_0 x6_1).f3.f1), .int .i64 ((rd_T82 l0_0 x6_1).f4.f0), .int .i64 ((rd_T82 l0_0 x6_1).f4.f1)] 82 (0, 0)) (by (with_reducible repeat (first | refine blk_drewN ?_ _ | refine blk_drew ?_ | refine blk_alloc ?_ _)); exact BK494.out) hb)
            have n5_ := Aside0.mk (below_step (by repeat (first | (with_reducible first | exact HB.out | apply below_alloc | apply pw_below_drewN | apply below_drew1 | refine below_set ?_ GE490.out | refine below_set ?_ GE491.out | refine below_set ?_ GE492.out | refine below_set ?_ GE494.out) | exact HB.out)) hb)
            clear HO_493000
            clear BK490
            clear BK491
            clear BK492
            clear BK494
            clear HB
            have HO_493000 := n0_
            have BK490 := n1_
            have BK491 := n2_
            have BK492 := n3_
            have BK494 := n4_
            have HB := n5_
            clear n0_ n1_ n2_ n3_ n4_ n5_
            (try clear hb)
            (try clear hb2)
            (try clear hk)
            (try clear hi)
            refine hK.out _ _ ⟨(blk_cell BK492.out 0).trans rfl, (blk_cell BK492.out 1).trans rfl, (blk_cell BK492.out 2).trans rfl, (blk_cell BK494.out 0).trans rfl, (blk_cell BK494.out 1).trans rfl, (blk_cell BK494.out 2).trans rfl, (blk_cell BK494.out 3).trans rfl, (blk_cell BK494.out 4).trans rfl, (blk_cell BK494.out 5).trans rfl, (blk_cell BK494.out 6).trans rfl, (blk_cell BK494.out 7).trans rfl, (blk_cell BK494.out 8).trans rfl, (blk_cell BK494.out 9).trans rfl⟩ (fun hHeld => ?_)
            clear hK K
            refine norm_ (a' := ?_) ?_ ?_
            rotate_left
            · show Act.put _ (some 63) _ = _
              simp only [Act.put, List.setIfInBounds_toArray, List.set_cons_zero, List.set_cons_succ, i64_w, i32_w]
              rfl
            refine pure_ (i := 39) (N := some 64) (v := ?_) (a' := ?_) #[true, true, true, true, true, true, true, true, true, true, true, true, true, true, true, true, true, true, true, true, true, true, true, true, true, true, true, true, true, true, true, true, true, true, true, true, true, true, true, true, false, false, false, false] rfl rfl (any_of HT_.out (by kernel_rfl)) (fun _ _ _ h => h) (Or.inl ⟨by rfl, ?_⟩) ?_ ?_
            rotate_left
            · intro w'
              go_simp
              with_reducible rfl
            rotate_left
            · simp only [Act.put, List.setIfInBounds_toArray, List.set_cons_zero, List.set_cons_succ, i64_w, i32_w]
              rfl
            refine one_ (i := 40) (N := some 65) #[true, true, true, true, true, true, true, true, true, true, true, true, true, true, true, true, true, true, true, true, true, true, true, true, true, true, true, true, true, true, true, true, true, true, true, true, true, true, true, true, true, false, false, false] rfl rfl (one_of HT_.out (by kernel_rfl)) (by decide) (fun K hK => ?_)
            refine value_ (w1 := ?_) (v := ?_) (by rfl) rfl ?_ ?_
            rotate_left 2
            · go_simp
              constructor
              · rfl
              · rfl
            refine hK.out _ _ ⟨(blk_cell (blk_alloc BK492.out _) 0).trans rfl, (blk_cell (blk_alloc BK492.out _) 1).trans rfl, (blk_cell (blk_alloc BK492.out _) 2).trans rfl, (blk_cell (blk_alloc BK494.out _) 0).trans rfl, (blk_cell (blk_alloc BK494.out _) 1).trans rfl, (blk_cell (blk_alloc BK494.out _) 2).trans rfl, (blk_cell (blk_alloc BK494.out _) 3).trans rfl, (blk_cell (blk_alloc BK494.out _) 4).trans rfl, (blk_cell (blk_alloc BK494.out _) 5).trans rfl, (blk_cell (blk_alloc BK494.out _) 6).trans rfl, (blk_cell (blk_alloc BK494.out _) 7).trans rfl, (blk_cell (blk_alloc BK494.out _) 8).trans rfl, (blk_cell (blk_alloc BK494.out _) 9).trans rfl⟩ (fun hHeld => ?_)
            clear hK K
            refine norm_ (a' := ?_) ?_ ?_
            rotate_left
            · show Act.put _ (some 65) _ = _
              simp only [Act.put, List.setIfInBounds_toArray, List.set_cons_zero, List.set_cons_succ, i64_w, i32_w]
              rfl
            refine one_ (i := 41) (N := some 66) #[true, true, true, true, true, true, true, true, true, true, true, true, true, true, true, true, true, true, true, true, true, true, true, true, true, true, true, true, true, true, true, true, true, true, true, true, true, true, true, true, true, true, false, false] rfl rfl (one_of HT_.out (by kernel_rfl)) (by decide) (fun K hK => ?_)
            refine Kd.R_append_step k82 (w0 := w) w.heap.size (by rfl) (.tmp 26) (.tmp 65) 22 82 (.agg #[(.int .i64 0), (.int .i64 0), (.int .i64 0), (.int .i64 0), (.int .i64 0), (.int .i64 0), (.int .i64 0), (.int .i64 0), (.int .i64 0), (.int .i64 0)]) 80 rfl Try.underlying22 info82 rfl (by decide) (by omega) u493000 x493000_1 (⟨(⟨t497, t498⟩ : S29), (⟨t501, t502⟩ : S29), (⟨(rd_T82 l0_0 x6_1).f2.f0, (rd_T82 l0_0 x6_1).f2.f1⟩ : S29), (⟨t505, t506⟩ : S29), (⟨t509, t510⟩ : S29)⟩ : S82) [.int .i64 t497, .int .i64 t498, .int .i64 t501, .int .i64 t502, .int .i64 ((rd_T82 l0_0 x6_1).f2.f0), .int .i64 ((rd_T82 l0_0 x6_1).f2.f1), .int .i64 t505, .int .i64 t506, .int .i64 t509, .int .i64 t510] (fun k_ => k_ ≠ gb494) (fun _ => False) rfl rfl ?aP (fun _ hk => hk.elim) ?aF ?aO ?aB ?aS ?aL ?_
            (case aP => exact k82_mkM _ _ _ (⟨(⟨t497, t498⟩ : S29), (⟨t501, t502⟩ : S29), (⟨(rd_T82 l0_0 x6_1).f2.f0, (rd_T82 l0_0 x6_1).f2.f1⟩ : S29), (⟨t505, t506⟩ : S29), (⟨t509, t510⟩ : S29)⟩ : S82))
            (case aB => exact (by repeat (first | (with_reducible first | exact HB.out | apply below_alloc | apply pw_below_drewN | apply below_drew1 | refine below_set ?_ GE490.out | refine below_set ?_ GE491.out | refine below_set ?_ GE492.out | refine below_set ?_ GE494.out) | exact HB.out)))
            (case aF => exact (fun k_ hk => Kd.freshB (g := gb494) (o := .cells #[.int .i64 ((rd_T82 l0_0 x6_1).f0.f0), .int .i64 ((rd_T82 l0_0 x6_1).f0.f1), .int .i64 ((rd_T82 l0_0 x6_1).f1.f0), .int .i64 ((rd_T82 l0_0 x6_1).f1.f1), .int .i64 ((rd_T82 l0_0 x6_1).f2.f0), .int .i64 ((rd_T82 l0_0 x6_1).f2.f1), .int .i64 ((rd_T82 l0_0 x6_1).f3.f0), .int .i64 ((rd_T82 l0_0 x6_1).f3.f1), .int .i64 ((rd_T82 l0_0 x6_1).f4.f0), .int .i64 ((rd_T82 l0_0 x6_1).f4.f1)] 82 (0, 0)) (by (with_reducible repeat (first | refine blk_drewN ?_ _ | refine blk_drew ?_ | refine blk_alloc ?_ _)); exact BK494.out) k_ hk))
            (case aO => exact (by (with_reducible repeat (first | apply Kd.R_alloc | apply Kd.R_drewN | apply Kd.R_drew)); exact HO_493000.out))
            (case aS => exact (below_size (by repeat (first | (with_reducible first | exact HB.out | apply below_alloc | apply pw_below_drewN | apply below_drew1 | refine below_set ?_ GE490.out | refine below_set ?_ GE491.out | refine below_set ?_ GE492.out | refine below_set ?_ GE494.out) | exact HB.out))))
            (case aL => have := LMc25.out; omega)
            intro v512 w44 ho hb hg hat
            rw [← Ny511.out] at ho
            have n0_ := Aside0.mk (blk_grown (g := gb490) (o := .cells #[.slice (some ad493) l0_0.length c0_0, .int .i64 a0_1, .int .i64 a0_2] 24 (0, 0)) (by (with_reducible repeat (first | refine blk_drewN ?_ _ | refine blk_drew ?_ | refine blk_alloc ?_ _)); exact BK490.out) hg (Kd.R_ne HO_493000.out BK490.out (by decide)))
            have n1_ := Aside0.mk (blk_grown (g := gb491) (o := .cells #[.slice none 0 0, .int .i64 0, .int .i64 0] 24 (0, 0)) (by (with_reducible repeat (first | refine blk_drewN ?_ _ | refine blk_drew ?_ | refine blk_alloc ?_ _)); exact BK491.out) hg (Kd.R_ne HO_493000.out BK491.out (by decide)))
            have n2_ := Aside0.mk (blk_grown (g := gb492) (o := .cells #[u493000, .int .i64 a0_1, .int .i64 a0_2] 24 (0, 0)) (by (with_reducible repeat (first | refine blk_drewN ?_ _ | refine blk_drew ?_ | refine blk_alloc ?_ _)); exact BK492.out) hg (Kd.R_ne HO_493000.out BK492.out (by decide)))
            have n3_ := Aside0.mk (blk_grown (g := gb494) (o := .cells #[.int .i64 ((rd_T82 l0_0 x6_1).f0.f0), .int .i64 ((rd_T82 l0_0 x6_1).f0.f1), .int .i64 ((rd_T82 l0_0 x6_1).f1.f0), .int .i64 ((rd_T82 l0_0 x6_1).f1.f1), .int .i64 ((rd_T82 l0_0 x6_1).f2.f0), .int .i64 ((rd_T82 l0_0 x6_1).f2.f1), .int .i64 ((rd_T82 l0_0 x6_1).f3.f0), .int .i64 ((rd_T82 l0_0 x6_1).f3.f1), .int .i64 ((rd_T82 l0_0 x6_1).f4.f0), .int .i64 ((rd_T82 l0_0 x6_1).f4.f1)] 82 (0, 0)) (by (with_reducible repeat (first | refine blk_drewN ?_ _ | refine blk_drew ?_ | refine blk_alloc ?_ _)); exact BK494.out) hg (Kd.R_away HO_493000.out (fun _ hk => hk)))
            have n4_ := Aside0.mk (hb)
            have n5_ := Aside0.mk (ho)
            clear BK490
            clear BK491
            clear BK492
            clear BK494
            clear HB
            clear HO_493000
            have BK490 := n0_
            have BK491 := n1_
            have BK492 := n2_
            have BK494 := n3_
            have HB := n4_
            have HO513 := n5_
            clear n0_ n1_ n2_ n3_ n4_ n5_
            clear ho hb hg hat
            obtain ⟨Ao45, co45, eo45⟩ := Kd.R_slice HO513.out
            (first | subst eo45 | (injection eo45 with f1_ f2_ f3_; have f4_ := f1_.symm; have f5_ := f3_.symm; clear f1_ f2_ f3_; subst f4_; subst f5_))
            refine hK.out _ _ ⟨(blk_cell BK492.out 0).trans rfl, (blk_cell BK492.out 1).trans rfl, (blk_cell BK492.out 2).trans rfl, (blk_cell BK494.out 0).trans rfl, (blk_cell BK494.out 1).trans rfl, (blk_cell BK494.out 2).trans rfl, (blk_cell BK494.out 3).trans rfl, (blk_cell BK494.out 4).trans rfl, (blk_cell BK494.out 5).trans rfl, (blk_cell BK494.out 6).trans rfl, (blk_cell BK494.out 7).trans rfl, (blk_cell BK494.out 8).trans rfl, (blk_cell BK494.out 9).trans rfl⟩ (fun hHeld => ?_)
            clear hK K
            refine norm_ (a' := ?_) ?_ ?_
            rotate_left
            · show Act.put _ (some 66) _ = _
              simp only [Act.put, List.setIfInBounds_toArray, List.set_cons_zero, List.set_cons_succ, i64_w, i32_w]
              rfl
            refine pure_ (i := 42) (N := some 67) (v := ?_) (a' := ?_) #[true, true, true, true, true, true, true, true, true, true, true, true, true, true, true, true, true, true, true, true, true, true, true, true, true, true, true, true, true, true, true, true, true, true, true, true, true, true, true, true, true, true, true, false] rfl rfl (any_of HT_.out (by kernel_rfl)) (fun _ _ _ h => h) (Or.inl ⟨by rfl, ?_⟩) ?_ ?_
            rotate_left
            · intro w'
              go_simp
              with_reducible rfl
            rotate_left
            · simp only [Act.put, List.setIfInBounds_toArray, List.set_cons_zero, List.set_cons_succ, i64_w, i32_w]
              rfl
            refine last_ (i := 43) (N := none) #[true, true, true, true, true, true, true, true, true, true, true, true, true, true, true, true, true, true, true, true, true, true, true, true, true, true, true, true, true, true, true, true, true, true, true, true, true, true, true, true, true, true, true, true] rfl rfl (one_of HT_.out (by kernel_rfl)) (by decide) (fun K hK => ?_)
            have hs46 : w44.cell? ⟨gb492, 0, none⟩ = some (u493000) := (blk_cell BK492.out 0).trans rfl
            have hfs46 := blk_frozen BK492.out 0
            have hns46_0 := NB490_492.out
            have hns46_1 := NB491_492.out
            have hns46_3 := NB494_492.out
            have hms46_0 := NB492_490.out
            have hms46_1 := NB492_491.out
            have hms46_3 := NB492_494.out
            refine skip_ (w1 := ?_) (by rfl) rfl ?_ ?_
            rotate_left
            · go_simp
              rfl
            refine hK.out _ _ ?_
            clear hK K
            refine done_ (done_of HT_.out (by kernel_rfl)) ?_
            try go_wp2
            go_roundg k1
            case measure => have := HK1.out; omega
            case rel => exact ⟨(wrap64 (x6_1 + 1)), (y511), (.slice Ao45 y511.length co45), (by first | rfl | (simp; done) | (simp [*]; done)), H', ⟨by have := HK1.out; omega⟩, ⟨by (with_reducible repeat (first | apply Kd.R_alloc | apply Kd.R_drewN | apply Kd.R_drew)); exact Kd.R_mono (Kd.R_far (p := ⟨gb492, 0, none⟩) (Kd.R_types HO513.out BK492.out (by decide)) (fun _ hk => hk.2) (.slice Ao45 y511.length co45)) (fun _ hk => trivial)⟩, ⟨by (with_reducible repeat (first | refine blk_drewN ?_ _ | refine blk_drew ?_ | refine blk_alloc ?_ _)); refine blk_far ?_ NB490_492.out _; (with_reducible repeat (first | refine blk_drewN ?_ _ | refine blk_drew ?_ | refine blk_alloc ?_ _)); exact BK490.out⟩, ⟨by (with_reducible repeat (first | refine blk_drewN ?_ _ | refine blk_drew ?_ | refine blk_alloc ?_ _)); refine blk_far ?_ NB491_492.out _; (with_reducible repeat (first | refine blk_drewN ?_ _ | refine blk_drew ?_ | refine blk_alloc ?_ _)); exact BK491.out⟩, ⟨by (with_reducible repeat (first | refine blk_drewN ?_ _ | refine blk_drew ?_ | refine blk_alloc ?_ _)); refine blk_put (cs := #[u493000, .int .i64 a0_1, .int .i64 a0_2]) ?_ 0 _ rfl; (with_reducible repeat (first | refine blk_drewN ?_ _ | refine blk_drew ?_ | refine blk_alloc ?_ _)); exact BK492.out⟩, ⟨by repeat (first | (with_reducible first | exact HB.out | apply below_alloc | apply pw_below_drewN | apply below_drew1 | refine below_set ?_ GE490.out | refine below_set ?_ GE491.out | refine below_set ?_ GE492.out | refine below_set ?_ GE494.out) | exact HB.out)⟩⟩
          · rw [if_neg c25] at H
            exact absurd H (by simp)
        · rw [if_neg c12] at H
          exact absurd H (by simp)
      · rw [if_neg c11] at H
        have c11b0 : decide (x6_1 < (l0_0.length : Int)) = false := decide_eq_false c11
        clear c11
        simp only [Option.some.injEq, Prod.mk.injEq] at H
        obtain ⟨rfl, rfl, rfl⟩ := H
        have hnb47 := NB490_491.out
        have hnc47 := NB491_490.out
        have hnb48 := NB490_492.out
        have hnc48 := NB492_490.out
        have hcz49_0 : wr.cell? ⟨gb490, 0, none⟩ = some (.slice A0_0 l0_0.length c0_0) := (blk_cell BK490.out 0).trans rfl
        have hcz49_1 : wr.cell? ⟨gb490, 1, none⟩ = some (.int .i64 a0_1) := (blk_cell BK490.out 1).trans rfl
        have hcz49_2 : wr.cell? ⟨gb490, 2, none⟩ = some (.int .i64 a0_2) := (blk_cell BK490.out 2).trans rfl
        have hfz49_0 := blk_frozen BK490.out 0
        have hfz49_1 := blk_frozen BK490.out 1
        have hfz49_2 := blk_frozen BK490.out 2
        have hnb50 := NB492_491.out
        have hnc50 := NB491_492.out
        have hcz51_0 : wr.cell? ⟨gb492, 0, none⟩ = some (u493000) := (blk_cell BK492.out 0).trans rfl
        have hcz51_1 : wr.cell? ⟨gb492, 1, none⟩ = some (.int .i64 a0_1) := (blk_cell BK492.out 1).trans rfl
        have hcz51_2 : wr.cell? ⟨gb492, 2, none⟩ = some (.int .i64 a0_2) := (blk_cell BK492.out 2).trans rfl
        have hfz51_0 := blk_frozen BK492.out 0
        have hfz51_1 := blk_frozen BK492.out 1
        have hfz51_2 := blk_frozen BK492.out 2
        obtain ⟨Ao52, co52, eo52⟩ := Kd.R_slice HO_493000.out
        subst eo52
        have hcz53_0 : wr.cell? ⟨gb491, 0, none⟩ = some (.slice none 0 0) := (blk_cell BK491.out 0).trans rfl
        have hcz53_1 : wr.cell? ⟨gb491, 1, none⟩ = some (.int .i64 0) := (blk_cell BK491.out 1).trans rfl
        have hcz53_2 : wr.cell? ⟨gb491, 2, none⟩ = some (.int .i64 0) := (blk_cell BK491.out 2).trans rfl
        have hfz53_0 := blk_frozen BK491.out 0
        have hfz53_1 := blk_frozen BK491.out 1
        have hfz53_2 := blk_frozen BK491.out 2
        go_wp2
        refine bodyPost_ret (results_cell_row rfl _ _ gb491 24 #[.slice Ao52 x493000_1.length co52, .int .i64 a0_1, .int .i64 a0_2] (0, 0) _ rfl (by (with_reducible repeat (first | refine blk_drewN ?_ _ | refine blk_drew ?_ | refine blk_alloc ?_ _)); refine blk_put (cs := #[.slice Ao52 x493000_1.length co52, .int .i64 a0_1, .int .i64 0]) ?_ 2 _ rfl; (with_reducible repeat (first | refine blk_drewN ?_ _ | refine blk_drew ?_ | refine blk_alloc ?_ _)); refine blk_put (cs := #[.slice Ao52 x493000_1.length co52, .int .i64 0, .int .i64 0]) ?_ 1 _ rfl; (with_reducible repeat (first | refine blk_drewN ?_ _ | refine blk_drew ?_ | refine blk_alloc ?_ _)); refine blk_put (cs := #[.slice none 0 0, .int .i64 0, .int .i64 0]) ?_ 0 _ rfl; (with_reducible repeat (first | refine blk_drewN ?_ _ | refine blk_drew ?_ | refine blk_alloc ?_ _)); exact BK491.out) Try.underlying24 rfl (by kernel_rfl)) rfl ?_
        exact ⟨_, by first | rfl | (simp [errW_none, errW_some] <;> rfl) | (simp [*, errW_none, errW_some] <;> rfl), by (with_reducible repeat (first | apply Kd.R_alloc | apply Kd.R_drewN | apply Kd.R_drew)); exact Kd.R_mono (Kd.R_far (p := ⟨gb491, 2, none⟩) (Kd.R_far (p := ⟨gb491, 1, none⟩) (Kd.R_far (p := ⟨gb491, 0, none⟩) (Kd.R_types HO_493000.out BK491.out (by decide)) (fun _ hk => hk.2) (.slice Ao52 x493000_1.length co52)) (fun _ hk => hk.2) (.int .i64 a0_1)) (fun _ hk => hk.2) (.int .i64 a0_2)) (fun _ hk => trivial), by repeat (first | (with_reducible first | exact HB.out | apply below_alloc | apply pw_below_drewN | apply below_drew1 | refine below_set ?_ GE490.out | refine below_set ?_ GE491.out | refine below_set ?_ GE492.out) | exact HB.out)⟩

end Go.Proofs.Ythoofldinnfpiaa.Q
