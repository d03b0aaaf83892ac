-- N47 QO (wip/pack9.py)
import Derived.Test.YtbmkbokkmmdjdaaGreatU2
import Derived.Test.YtbmkbokkmmdjdaaGreatU19
import Derived.Test.YtbmkbokkmmdjdaaGreatU29
section
namespace Go.Proofs.YtbmkbokkmmdjdaaGreat.Q
open Go.RowKit Go.Proofs.YtbmkbokkmmdjdaaGreatW.PrintWords Go.Proofs.YtbmkbokkmmdjdaaGreatW.PrintLast Go.Proofs.YtbmkbokkmmdjdaaGreatW.PrintMore
attribute [local go_sem] max2_int min2_int max_two min_two max_three min_three max_four min_four   -- for this text's walks alone
set_option linter.unusedVariables false
set_option linter.unusedSimpArgs false

def culletref09_Over.j0 : Nat → Bool → Int → Int → Int → Int → Int → Int → Int → Int → Int → Option (Bool)
  | 0, _, _, _, _, _, _, _, _, _, _ => none
  | k + 1, x21, x380000, x380001, x380002, x380003, x380004, x380005, x380006, x380007, x380008 => if x21 = true then (some true) else ((culletref04_Made.f k (wrap64 (1000 * x380002)) x380001).bind fun bt380 => ((culletref04_Made.f k x380008 x380006).bind fun bt382 => ((culletref04_Less.f k bt380.1 bt380.2 bt382.1 bt382.2).bind fun t384 => (some t384))))
def culletref09_Over.f (k : Nat) (a0_0 : Int) (a0_1 : Int) (a0_2 : Int) (a0_3 : Int) (a0_4 : Int) (a0_5 : Int) (a0_6 : Int) (a0_7 : Int) (a0_8 : Int) : Option (Bool) := if a0_8 = 0 then (some false) else (if a0_1 = 0 then (culletref09_Over.j0 k true a0_0 a0_1 a0_2 a0_3 a0_4 a0_5 a0_6 a0_7 a0_8) else (if a0_6 = 0 then (culletref09_Over.j0 k true a0_0 a0_1 a0_2 a0_3 a0_4 a0_5 a0_6 a0_7 a0_8) else (culletref09_Over.j0 k (a0_2 == 0) a0_0 a0_1 a0_2 a0_3 a0_4 a0_5 a0_6 a0_7 a0_8)))
theorem culletref09_Over.mono_l : ∀ k, (∀ y0 y1 y2 y3 y4 y5 y6 y7 y8 y9, LeO (culletref09_Over.j0 k y0 y1 y2 y3 y4 y5 y6 y7 y8 y9) (culletref09_Over.j0 (k + 1) y0 y1 y2 y3 y4 y5 y6 y7 y8 y9))
  | 0 => fun _ _ _ _ _ _ _ _ _ _ r h => by simp [culletref09_Over.j0] at h
  | k + 1 => by
    have ih0 := culletref09_Over.mono_l k
    · intro y0 y1 y2 y3 y4 y5 y6 y7 y8 y9
      unfold culletref09_Over.j0
      repeat' first
      | (with_reducible exact ih0 _ _ _ _ _ _ _ _ _ _)
      | (with_reducible exact culletref04_Less.mono _ _ _ _ _)
      | (with_reducible exact culletref04_Made.mono _ _ _)
      | (with_reducible exact LeO.refl _)
      | (with_reducible exact LeO.none _)
      | (with_reducible refine LeO.ite ?_ ?_)
      | (with_reducible refine LeO.bind ?_ (fun _ => ?_))
      | exact ih0 _ _ _ _ _ _ _ _ _ _
      | exact culletref04_Less.mono _ _ _ _ _
      | exact culletref04_Made.mono _ _ _
      | exact LeO.none _
      | refine LeO.ite ?_ ?_
      | refine LeO.bind ?_ (fun _ => ?_)
theorem culletref09_Over.mono : ∀ a0 a1 a2 a3 a4 a5 a6 a7 a8 k, LeO (culletref09_Over.f k a0 a1 a2 a3 a4 a5 a6 a7 a8) (culletref09_Over.f (k + 1) a0 a1 a2 a3 a4 a5 a6 a7 a8) := by
  intro a0 a1 a2 a3 a4 a5 a6 a7 a8 k
  have ih0 := culletref09_Over.mono_l k
  unfold culletref09_Over.f
  repeat' first
      | (with_reducible exact ih0 _ _ _ _ _ _ _ _ _ _)
      | (with_reducible exact culletref04_Less.mono _ _ _ _ _)
      | (with_reducible exact culletref04_Made.mono _ _ _)
      | (with_reducible exact LeO.refl _)
      | (with_reducible exact LeO.none _)
      | (with_reducible refine LeO.ite ?_ ?_)
      | (with_reducible refine LeO.bind ?_ (fun _ => ?_))
      | exact ih0 _ _ _ _ _ _ _ _ _ _
      | exact culletref04_Less.mono _ _ _ _ _
      | exact culletref04_Made.mono _ _ _
      | exact LeO.none _
      | refine LeO.ite ?_ ?_
      | refine LeO.bind ?_ (fun _ => ?_)
def culletref09_Over.T5 : Bool × List (List Nat × List Nat) := (true, [([], []), ([0], [0]), ([1], [1]), ([2], [2]), ([], []), ([4], [4]), ([5], [5]), ([3, 6], [3, 6]), ([], []), ([8], [8]), ([], []), ([10], [10]), ([11], [11]), ([9, 12, 7], [9, 12]), ([7, 13, 13], [7, 13]), ([14, 14, 0, 1, 2, 3, 4, 5, 6, 7, 8, 9, 10, 11, 12, 13, 14], [14])])
def culletref09_Over.B5 : List Nat := [0, 1, 3, 7, 0, 16, 48, 127, 0, 256, 0, 1024, 3072, 8191, 16383, 32767]
theorem culletref09_Over.tab5 : rtab .any (opsOf Tryz.f47 5) = culletref09_Over.T5 := by kernel_rfl
theorem culletref09_Over.bits5 : waitsOk culletref09_Over.T5.2 culletref09_Over.B5 = true := by kernel_rfl
set_option maxHeartbeats 8000000 in
set_option maxRecDepth 100000 in
theorem culletref09_Over.calls (k : Nat) (a0_0 : Int) (a0_1 : Int) (a0_2 : Int) (a0_3 : Int) (a0_4 : Int) (a0_5 : Int) (a0_6 : Int) (a0_7 : Int) (a0_8 : Int) (r : Bool) (w : World) (h : culletref09_Over.f k a0_0 a0_1 a0_2 a0_3 a0_4 a0_5 a0_6 a0_7 a0_8 = some r) :
    Calls Tryz.prog 47 #[.agg #[.int .i64 a0_0, .int .i64 a0_1, .int .i64 a0_2, .int .i64 a0_3, .int .i64 a0_4, .int .i64 a0_5, .int .i64 a0_6, .int .i64 a0_7, .int .i64 a0_8]] w fun e w' => e = .returned (.bool r) ∧ Below w.heap.size w w' := by
  have hu88 := Tryz.underlying88
  have HB := Aside0.mk (Below.refl w.heap.size w)
  have H : (if a0_8 = 0 then (some false) else (if a0_1 = 0 then (culletref09_Over.j0 k true a0_0 a0_1 a0_2 a0_3 a0_4 a0_5 a0_6 a0_7 a0_8) else (if a0_6 = 0 then (culletref09_Over.j0 k true a0_0 a0_1 a0_2 a0_3 a0_4 a0_5 a0_6 a0_7 a0_8) else (culletref09_Over.j0 k (a0_2 == 0) a0_0 a0_1 a0_2 a0_3 a0_4 a0_5 a0_6 a0_7 a0_8)))) = some r := h
  clear h
  by_cases c2 : a0_8 = 0
  · rw [if_pos c2] at H
    have c2b0 : (a0_8 == 0) = true := beq_iff_eq.mpr c2
    have c2b1 : (a0_8 != 0) = false := bne_eq_false_iff_eq.mpr c2
    clear c2
    obtain rfl := Option.some.inj H
    go_enter Tryz.func47, Tryz.ntmps47
    go_wp2_with (first | ((with_reducible refine gate_dst (N := 1) rfl ?_); refine box_event ?hg (N := 1) ?hd (cs := #[.int .i64 a0_0, .int .i64 a0_1, .int .i64 a0_2, .int .i64 a0_3, .int .i64 a0_4, .int .i64 a0_5, .int .i64 a0_6, .int .i64 a0_7, .int .i64 a0_8]) (t := 88) ?hr ?_; (case hd => rfl); (case hg => rfl); (case hr => first | (go_simp; done) | (go_simp; rfl)); intro gb379 hg w3 hbox hb; have n0_ := Aside0.mk (below_step (by repeat (first | (with_reducible first | exact HB.out | apply below_alloc | apply pw_below_drewN | apply below_drew1) | exact HB.out)) hb); have n1_ := Aside0.mk (hbox); have n2_ := Aside0.mk ((by rw [hg]; exact (below_size (by repeat (first | (with_reducible first | exact HB.out | apply below_alloc | apply pw_below_drewN | apply below_drew1) | exact HB.out))) : w.heap.size ≤ gb379)); have n3_ := Aside0.mk ((by rw [hg]; exact (below_size (by repeat (first | (with_reducible first | exact HB.out | apply below_alloc | apply pw_below_drewN | apply below_drew1) | exact HB.out))) : w.heap.size ≤ gb379)); clear HB; have HB := n0_; have BK379 := n1_; have GW379 := n2_; have GE379 := n3_; clear n0_ n1_ n2_ n3_; clear hb hbox hg; have hcz4_0 : w3.cell? ⟨gb379, 0, none⟩ = some (.int .i64 a0_0) := (blk_cell BK379.out 0).trans rfl; have hcz4_1 : w3.cell? ⟨gb379, 1, none⟩ = some (.int .i64 a0_1) := (blk_cell BK379.out 1).trans rfl; have hcz4_2 : w3.cell? ⟨gb379, 2, none⟩ = some (.int .i64 a0_2) := (blk_cell BK379.out 2).trans rfl; have hcz4_3 : w3.cell? ⟨gb379, 3, none⟩ = some (.int .i64 a0_3) := (blk_cell BK379.out 3).trans rfl; have hcz4_4 : w3.cell? ⟨gb379, 4, none⟩ = some (.int .i64 a0_4) := (blk_cell BK379.out 4).trans rfl; have hcz4_5 : w3.cell? ⟨gb379, 5, none⟩ = some (.int .i64 a0_5) := (blk_cell BK379.out 5).trans rfl; have hcz4_6 : w3.cell? ⟨gb379, 6, none⟩ = some (.int .i64 a0_6) := (blk_cell BK379.out 6).trans rfl; have hcz4_7 : w3.cell? ⟨gb379, 7, none⟩ = some (.int .i64 a0_7) := (blk_cell BK379.out 7).trans rfl; have hcz4_8 : w3.cell? ⟨gb379, 8, none⟩ = some (.int .i64 a0_8) := (blk_cell BK379.out 8).trans rfl; have hfz4_0 := blk_frozen BK379.out 0; have hfz4_1 := blk_frozen BK379.out 1; have hfz4_2 := blk_frozen BK379.out 2; have hfz4_3 := blk_frozen BK379.out 3; have hfz4_4 := blk_frozen BK379.out 4; have hfz4_5 := blk_frozen BK379.out 5; have hfz4_6 := blk_frozen BK379.out 6; have hfz4_7 := blk_frozen BK379.out 7; have hfz4_8 := blk_frozen BK379.out 8))
    go_ret
    exact ⟨by first | rfl | (simp [errW_none, errW_some] <;> rfl) | (simp [*, errW_none, errW_some] <;> rfl), by repeat (first | (with_reducible first | exact HB.out | apply below_alloc | apply pw_below_drewN | apply below_drew1 | refine below_set ?_ GE379.out) | exact HB.out)⟩
  · rw [if_neg c2] at H
    have c2b0 : (a0_8 == 0) = false := beq_eq_false_iff_ne.mpr c2
    have c2b1 : (a0_8 != 0) = true := bne_iff_ne.mpr c2
    have HC5 := Aside0.mk H
    clear H
    go_enter Tryz.func47, Tryz.ntmps47
    go_upto_region 3 with (first | ((with_reducible refine gate_dst (N := 1) rfl ?_); refine box_event ?hg (N := 1) ?hd (cs := #[.int .i64 a0_0, .int .i64 a0_1, .int .i64 a0_2, .int .i64 a0_3, .int .i64 a0_4, .int .i64 a0_5, .int .i64 a0_6, .int .i64 a0_7, .int .i64 a0_8]) (t := 88) ?hr ?_; (case hd => rfl); (case hg => rfl); (case hr => first | (go_simp; done) | (go_simp; rfl)); intro gb379 hg w6 hbox hb; have n0_ := Aside0.mk (below_step (by repeat (first | (with_reducible first | exact HB.out | apply below_alloc | apply pw_below_drewN | apply below_drew1) | exact HB.out)) hb); have n1_ := Aside0.mk (hbox); have n2_ := Aside0.mk ((by rw [hg]; exact (below_size (by repeat (first | (with_reducible first | exact HB.out | apply below_alloc | apply pw_below_drewN | apply below_drew1) | exact HB.out))) : w.heap.size ≤ gb379)); have n3_ := Aside0.mk ((by rw [hg]; exact (below_size (by repeat (first | (with_reducible first | exact HB.out | apply below_alloc | apply pw_below_drewN | apply below_drew1) | exact HB.out))) : w.heap.size ≤ gb379)); clear HB; have HB := n0_; have BK379 := n1_; have GW379 := n2_; have GE379 := n3_; clear n0_ n1_ n2_ n3_; clear hb hbox hg; have hcz7_0 : w6.cell? ⟨gb379, 0, none⟩ = some (.int .i64 a0_0) := (blk_cell BK379.out 0).trans rfl; have hcz7_1 : w6.cell? ⟨gb379, 1, none⟩ = some (.int .i64 a0_1) := (blk_cell BK379.out 1).trans rfl; have hcz7_2 : w6.cell? ⟨gb379, 2, none⟩ = some (.int .i64 a0_2) := (blk_cell BK379.out 2).trans rfl; have hcz7_3 : w6.cell? ⟨gb379, 3, none⟩ = some (.int .i64 a0_3) := (blk_cell BK379.out 3).trans rfl; have hcz7_4 : w6.cell? ⟨gb379, 4, none⟩ = some (.int .i64 a0_4) := (blk_cell BK379.out 4).trans rfl; have hcz7_5 : w6.cell? ⟨gb379, 5, none⟩ = some (.int .i64 a0_5) := (blk_cell BK379.out 5).trans rfl; have hcz7_6 : w6.cell? ⟨gb379, 6, none⟩ = some (.int .i64 a0_6) := (blk_cell BK379.out 6).trans rfl; have hcz7_7 : w6.cell? ⟨gb379, 7, none⟩ = some (.int .i64 a0_7) := (blk_cell BK379.out 7).trans rfl; have hcz7_8 : w6.cell? ⟨gb379, 8, none⟩ = some (.int .i64 a0_8) := (blk_cell BK379.out 8).trans rfl; have hfz7_0 := blk_frozen BK379.out 0; have hfz7_1 := blk_frozen BK379.out 1; have hfz7_2 := blk_frozen BK379.out 2; have hfz7_3 := blk_frozen BK379.out 3; have hfz7_4 := blk_frozen BK379.out 4; have hfz7_5 := blk_frozen BK379.out 5; have hfz7_6 := blk_frozen BK379.out 6; have hfz7_7 := blk_frozen BK379.out 7; have hfz7_8 := blk_frozen BK379.out 8))
    (try simp only [Act.put, List.setIfInBounds_toArray, List.set_cons_zero, List.set_cons_succ])
    go_cut [21] (fun v21 wc => ∃ (kq : Nat) (x21_4 : Bool), v21 = .bool x21_4 ∧ Aside0 (culletref09_Over.j0 kq x21_4 a0_0 a0_1 a0_2 a0_3 a0_4 a0_5 a0_6 a0_7 a0_8 = some r) ∧ Aside0 (kq ≤ k) ∧ Aside0 (wc.heap[gb379]? = some (.cells #[.int .i64 a0_0, .int .i64 a0_1, .int .i64 a0_2, .int .i64 a0_3, .int .i64 a0_4, .int .i64 a0_5, .int .i64 a0_6, .int .i64 a0_7, .int .i64 a0_8] 88 (0, 0))) ∧ Aside0 (Below w.heap.size w wc))
    case first =>
      have H := HC5.out
      clear HC5
      by_cases c8 : a0_1 = 0
      · rw [if_pos c8] at H
        have c8b0 : (a0_1 == 0) = true := beq_iff_eq.mpr c8
        have c8b1 : (a0_1 != 0) = false := bne_eq_false_iff_eq.mpr c8
        clear c8
        (first | rw [c8b0] | (simp only [i64_w, i32_w]; rw [c8b0]) | skip)
        have H' := Aside0.mk H
        clear H
        have hcz9_0 : w6.cell? ⟨gb379, 0, none⟩ = some (.int .i64 a0_0) := (blk_cell BK379.out 0).trans rfl
        have hcz9_1 : w6.cell? ⟨gb379, 1, none⟩ = some (.int .i64 a0_1) := (blk_cell BK379.out 1).trans rfl
        have hcz9_2 : w6.cell? ⟨gb379, 2, none⟩ = some (.int .i64 a0_2) := (blk_cell BK379.out 2).trans rfl
        have hcz9_3 : w6.cell? ⟨gb379, 3, none⟩ = some (.int .i64 a0_3) := (blk_cell BK379.out 3).trans rfl
        have hcz9_4 : w6.cell? ⟨gb379, 4, none⟩ = some (.int .i64 a0_4) := (blk_cell BK379.out 4).trans rfl
        have hcz9_5 : w6.cell? ⟨gb379, 5, none⟩ = some (.int .i64 a0_5) := (blk_cell BK379.out 5).trans rfl
        have hcz9_6 : w6.cell? ⟨gb379, 6, none⟩ = some (.int .i64 a0_6) := (blk_cell BK379.out 6).trans rfl
        have hcz9_7 : w6.cell? ⟨gb379, 7, none⟩ = some (.int .i64 a0_7) := (blk_cell BK379.out 7).trans rfl
        have hcz9_8 : w6.cell? ⟨gb379, 8, none⟩ = some (.int .i64 a0_8) := (blk_cell BK379.out 8).trans rfl
        have hfz9_0 := blk_frozen BK379.out 0
        have hfz9_1 := blk_frozen BK379.out 1
        have hfz9_2 := blk_frozen BK379.out 2
        have hfz9_3 := blk_frozen BK379.out 3
        have hfz9_4 := blk_frozen BK379.out 4
        have hfz9_5 := blk_frozen BK379.out 5
        have hfz9_6 := blk_frozen BK379.out 6
        have hfz9_7 := blk_frozen BK379.out 7
        have hfz9_8 := blk_frozen BK379.out 8
        go_wp2
        go_meet
        case rel => exact ⟨_, (true), (by first | rfl | (simp; done) | (simp [*]; done)), H', ⟨by first | omega | exact Nat.le_refl _⟩, ⟨by (with_reducible repeat (first | refine blk_drewN ?_ _ | refine blk_drew ?_ | refine blk_alloc ?_ _)); exact BK379.out⟩, ⟨by repeat (first | (with_reducible first | exact HB.out | apply below_alloc | apply pw_below_drewN | apply below_drew1 | refine below_set ?_ GE379.out) | exact HB.out)⟩⟩
      · rw [if_neg c8] at H
        have c8b0 : (a0_1 == 0) = false := beq_eq_false_iff_ne.mpr c8
        have c8b1 : (a0_1 != 0) = true := bne_iff_ne.mpr c8
        (first | rw [c8b0] | (simp only [i64_w, i32_w]; rw [c8b0]) | skip)
        by_cases c10 : a0_6 = 0
        · rw [if_pos c10] at H
          have c10b0 : (a0_6 == 0) = true := beq_iff_eq.mpr c10
          have c10b1 : (a0_6 != 0) = false := bne_eq_false_iff_eq.mpr c10
          clear c10
          have H' := Aside0.mk H
          clear H
          have hcz11_0 : w6.cell? ⟨gb379, 0, none⟩ = some (.int .i64 a0_0) := (blk_cell BK379.out 0).trans rfl
          have hcz11_1 : w6.cell? ⟨gb379, 1, none⟩ = some (.int .i64 a0_1) := (blk_cell BK379.out 1).trans rfl
          have hcz11_2 : w6.cell? ⟨gb379, 2, none⟩ = some (.int .i64 a0_2) := (blk_cell BK379.out 2).trans rfl
          have hcz11_3 : w6.cell? ⟨gb379, 3, none⟩ = some (.int .i64 a0_3) := (blk_cell BK379.out 3).trans rfl
          have hcz11_4 : w6.cell? ⟨gb379, 4, none⟩ = some (.int .i64 a0_4) := (blk_cell BK379.out 4).trans rfl
          have hcz11_5 : w6.cell? ⟨gb379, 5, none⟩ = some (.int .i64 a0_5) := (blk_cell BK379.out 5).trans rfl
          have hcz11_6 : w6.cell? ⟨gb379, 6, none⟩ = some (.int .i64 a0_6) := (blk_cell BK379.out 6).trans rfl
          have hcz11_7 : w6.cell? ⟨gb379, 7, none⟩ = some (.int .i64 a0_7) := (blk_cell BK379.out 7).trans rfl
          have hcz11_8 : w6.cell? ⟨gb379, 8, none⟩ = some (.int .i64 a0_8) := (blk_cell BK379.out 8).trans rfl
          have hfz11_0 := blk_frozen BK379.out 0
          have hfz11_1 := blk_frozen BK379.out 1
          have hfz11_2 := blk_frozen BK379.out 2
          have hfz11_3 := blk_frozen BK379.out 3
          have hfz11_4 := blk_frozen BK379.out 4
          have hfz11_5 := blk_frozen BK379.out 5
          have hfz11_6 := blk_frozen BK379.out 6
          have hfz11_7 := blk_frozen BK379.out 7
          have hfz11_8 := blk_frozen BK379.out 8
          go_wp2
          go_meet
          case rel => exact ⟨_, (true), (by first | rfl | (simp; done) | (simp [*]; done)), H', ⟨by first | omega | exact Nat.le_refl _⟩, ⟨by (with_reducible repeat (first | refine blk_drewN ?_ _ | refine blk_drew ?_ | refine blk_alloc ?_ _)); exact BK379.out⟩, ⟨by repeat (first | (with_reducible first | exact HB.out | apply below_alloc | apply pw_below_drewN | apply below_drew1 | refine below_set ?_ GE379.out) | exact HB.out)⟩⟩
        · rw [if_neg c10] at H
          have c10b0 : (a0_6 == 0) = false := beq_eq_false_iff_ne.mpr c10
          have c10b1 : (a0_6 != 0) = true := bne_iff_ne.mpr c10
          have H' := Aside0.mk H
          clear H
          have hcz12_0 : w6.cell? ⟨gb379, 0, none⟩ = some (.int .i64 a0_0) := (blk_cell BK379.out 0).trans rfl
          have hcz12_1 : w6.cell? ⟨gb379, 1, none⟩ = some (.int .i64 a0_1) := (blk_cell BK379.out 1).trans rfl
          have hcz12_2 : w6.cell? ⟨gb379, 2, none⟩ = some (.int .i64 a0_2) := (blk_cell BK379.out 2).trans rfl
          have hcz12_3 : w6.cell? ⟨gb379, 3, none⟩ = some (.int .i64 a0_3) := (blk_cell BK379.out 3).trans rfl
          have hcz12_4 : w6.cell? ⟨gb379, 4, none⟩ = some (.int .i64 a0_4) := (blk_cell BK379.out 4).trans rfl
          have hcz12_5 : w6.cell? ⟨gb379, 5, none⟩ = some (.int .i64 a0_5) := (blk_cell BK379.out 5).trans rfl
          have hcz12_6 : w6.cell? ⟨gb379, 6, none⟩ = some (.int .i64 a0_6) := (blk_cell BK379.out 6).trans rfl
          have hcz12_7 : w6.cell? ⟨gb379, 7, none⟩ = some (.int .i64 a0_7) := (blk_cell BK379.out 7).trans rfl
          have hcz12_8 : w6.cell? ⟨gb379, 8, none⟩ = some (.int .i64 a0_8) := (blk_cell BK379.out 8).trans rfl
          have hfz12_0 := blk_frozen BK379.out 0
          have hfz12_1 := blk_frozen BK379.out 1
          have hfz12_2 := blk_frozen BK379.out 2
          have hfz12_3 := blk_frozen BK379.out 3
          have hfz12_4 := blk_frozen BK379.out 4
          have hfz12_5 := blk_frozen BK379.out 5
          have hfz12_6 := blk_frozen BK379.out 6
          have hfz12_7 := blk_frozen BK379.out 7
          have hfz12_8 := blk_frozen BK379.out 8
          go_wp2
          go_meet
          case rel => exact ⟨_, ((a0_2 == 0)), (by first | rfl | (simp; done) | (simp [*]; done)), H', ⟨by first | omega | exact Nat.le_refl _⟩, ⟨by (with_reducible repeat (first | refine blk_drewN ?_ _ | refine blk_drew ?_ | refine blk_alloc ?_ _)); exact BK379.out⟩, ⟨by repeat (first | (with_reducible first | exact HB.out | apply below_alloc | apply pw_below_drewN | apply below_drew1 | refine below_set ?_ GE379.out) | exact HB.out)⟩⟩
    case rest =>
      clear HC5
      try clear c1
      try clear c2
      try clear c2b0
      try clear c2b1
      try clear p2
      try clear c4
      try clear c8
      try clear c8b0
      try clear c8b1
      try clear c10
      try clear c10b0
      try clear c10b1
      try clear hcz11_0
      try clear hcz11_1
      try clear hcz11_2
      try clear hcz11_3
      try clear hcz11_4
      try clear hcz11_5
      try clear hcz11_6
      try clear hcz11_7
      try clear hcz11_8
      try clear hcz12_0
      try clear hcz12_1
      try clear hcz12_2
      try clear hcz12_3
      try clear hcz12_4
      try clear hcz12_5
      try clear hcz12_6
      try clear hcz12_7
      try clear hcz12_8
      try clear hcz4_0
      try clear hcz4_1
      try clear hcz4_2
      try clear hcz4_3
      try clear hcz4_4
      try clear hcz4_5
      try clear hcz4_6
      try clear hcz4_7
      try clear hcz4_8
      try clear hcz7_0
      try clear hcz7_1
      try clear hcz7_2
      try clear hcz7_3
      try clear hcz7_4
      try clear hcz7_5
      try clear hcz7_6
      try clear hcz7_7
      try clear hcz7_8
      try clear hcz9_0
      try clear hcz9_1
      try clear hcz9_2
      try clear hcz9_3
      try clear hcz9_4
      try clear hcz9_5
      try clear hcz9_6
      try clear hcz9_7
      try clear hcz9_8
      try clear hfz11_0
      try clear hfz11_1
      try clear hfz11_2
      try clear hfz11_3
      try clear hfz11_4
      try clear hfz11_5
      try clear hfz11_6
      try clear hfz11_7
      try clear hfz11_8
      try clear hfz12_0
      try clear hfz12_1
      try clear hfz12_2
      try clear hfz12_3
      try clear hfz12_4
      try clear hfz12_5
      try clear hfz12_6
      try clear hfz12_7
      try clear hfz12_8
      try clear hfz4_0
      try clear hfz4_1
      try clear hfz4_2
      try clear hfz4_3
      try clear hfz4_4
      try clear hfz4_5
      try clear hfz4_6
      try clear hfz4_7
      try clear hfz4_8
      try clear hfz7_0
      try clear hfz7_1
      try clear hfz7_2
      try clear hfz7_3
      try clear hfz7_4
      try clear hfz7_5
      try clear hfz7_6
      try clear hfz7_7
      try clear hfz7_8
      try clear hfz9_0
      try clear hfz9_1
      try clear hfz9_2
      try clear hfz9_3
      try clear hfz9_4
      try clear hfz9_5
      try clear hfz9_6
      try clear hfz9_7
      try clear hfz9_8
      obtain ⟨kq, x21_4, rfl, HA, HJ4, BK379, HB⟩ := hcut
      cases kq with
      | zero => exact absurd HA.out (by simp [culletref09_Over.j0])
      | succ kj4 =>
        have H := HA.out
        clear HA
        simp only [culletref09_Over.j0] at H
        by_cases c13 : x21_4 = true
        · subst c13
          have H1 : (some true) = some r := by rw [if_pos rfl] at H; exact H
          clear H
          have H := H1
          clear H1
          obtain rfl := Option.some.inj H
          go_wp2
          go_ret
          exact ⟨by first | rfl | (simp [errW_none, errW_some] <;> rfl) | (simp [*, errW_none, errW_some] <;> rfl), by repeat (first | (with_reducible first | exact HB.out | apply below_alloc | apply pw_below_drewN | apply below_drew1 | refine below_set ?_ GE379.out) | exact HB.out)⟩
        · replace c13 := Bool.eq_false_iff.mpr c13
          subst c13
          have H1 : ((culletref04_Made.f kj4 (wrap64 (1000 * a0_2)) a0_1).bind fun bt380 => ((culletref04_Made.f kj4 a0_8 a0_6).bind fun bt382 => ((culletref04_Less.f kj4 bt380.1 bt380.2 bt382.1 bt382.2).bind fun t384 => (some t384)))) = some r := by rw [if_neg (show ¬ (false = true) by decide)] at H; exact H
          clear H
          have H := H1
          clear H1
          replace H := Option.bind_eq_some_iff.mp H
          obtain ⟨⟨t380, t381⟩, A140, H⟩ := H
          replace H : ((culletref04_Made.f kj4 a0_8 a0_6).bind fun bt382 => ((culletref04_Less.f kj4 t380 t381 bt382.1 bt382.2).bind fun t384 => (some t384))) = some r := H
          have A14 := Aside0.mk A140
          clear A140
          replace H := Option.bind_eq_some_iff.mp H
          obtain ⟨⟨t382, t383⟩, A150, H⟩ := H
          replace H : ((culletref04_Less.f kj4 t380 t381 t382 t383).bind fun t384 => (some t384)) = some r := H
          have A15 := Aside0.mk A150
          clear A150
          replace H := Option.bind_eq_some_iff.mp H
          obtain ⟨t384, A160, H⟩ := H
          replace H : (some t384) = some r := H
          have A16 := Aside0.mk A160
          clear A160
          obtain rfl := Option.some.inj H
          try go_wp2
          have n0_ := Aside0.mk (blk_drew BK379.out)
          have n1_ := Aside0.mk (below_drew1 HB.out)
          clear BK379
          clear HB
          have BK379 := n0_
          have HB := n1_
          clear n0_ n1_
          refine start_ (n := 16) (S := fun w' => w'.cell? ⟨gb379, 0, none⟩ = some (.int .i64 a0_0) ∧ w'.cell? ⟨gb379, 1, none⟩ = some (.int .i64 a0_1) ∧ w'.cell? ⟨gb379, 2, none⟩ = some (.int .i64 a0_2) ∧ w'.cell? ⟨gb379, 3, none⟩ = some (.int .i64 a0_3) ∧ w'.cell? ⟨gb379, 4, none⟩ = some (.int .i64 a0_4) ∧ w'.cell? ⟨gb379, 5, none⟩ = some (.int .i64 a0_5) ∧ w'.cell? ⟨gb379, 6, none⟩ = some (.int .i64 a0_6) ∧ w'.cell? ⟨gb379, 7, none⟩ = some (.int .i64 a0_7) ∧ w'.cell? ⟨gb379, 8, none⟩ = some (.int .i64 a0_8)) (ds := []) #[false, false, false, false, false, false, false, false, false, false, false, false, false, false, false, false] (by kernel_rfl) rfl rfl ⟨(blk_cell BK379.out 0).trans rfl, (blk_cell BK379.out 1).trans rfl, (blk_cell BK379.out 2).trans rfl, (blk_cell BK379.out 3).trans rfl, (blk_cell BK379.out 4).trans rfl, (blk_cell BK379.out 5).trans rfl, (blk_cell BK379.out 6).trans rfl, (blk_cell BK379.out 7).trans rfl, (blk_cell BK379.out 8).trans rfl⟩ (fun hHeld => ?_); refine with_tabW culletref09_Over.tab5 culletref09_Over.bits5 (fun HT_ HW_ => ?_)
          generalize wc.drew = w17 at BK379 HB hHeld ⊢
          refine pure_ (i := 0) (N := some 22) (v := ?_) (a' := ?_) #[true, false, false, false, false, false, false, false, false, false, false, false, false, false, false, false] rfl rfl (any_of HT_.out (by kernel_rfl)) (fun _ _ _ h => h) (Or.inl ⟨by rfl, ?_⟩) ?_ ?_
          rotate_left
          · intro w'
            go_simp
            with_reducible rfl
          rotate_left
          · simp only [Act.put, List.setIfInBounds_toArray, List.set_cons_zero, List.set_cons_succ, i64_w, i32_w]
            rfl
          refine pure_ (i := 1) (N := some 23) (v := ?_) (a' := ?_) #[true, true, false, false, false, false, false, false, false, false, false, false, false, false, false, false] rfl rfl (any_of HT_.out (by kernel_rfl)) (fun _ _ _ h => h) (Or.inl ⟨by rfl, ?_⟩) ?_ ?_
          rotate_left
          · intro w'
            go_simp
            with_reducible rfl
          rotate_left
          · simp only [Act.put, List.setIfInBounds_toArray, List.set_cons_zero, List.set_cons_succ, i64_w, i32_w]
            rfl
          refine pure_ (i := 4) (N := some 26) (v := ?_) (a' := ?_) #[true, true, false, false, true, false, false, false, false, false, false, false, false, false, false, false] rfl rfl (any_of HT_.out (by kernel_rfl)) (fun _ _ _ h => h) (Or.inl ⟨by rfl, ?_⟩) ?_ ?_
          rotate_left
          · intro w'
            go_simp
            with_reducible rfl
          rotate_left
          · simp only [Act.put, List.setIfInBounds_toArray, List.set_cons_zero, List.set_cons_succ, i64_w, i32_w]
            rfl
          refine pure_ (i := 5) (N := some 27) (v := ?_) (a' := ?_) #[true, true, false, false, true, true, false, false, false, false, false, false, false, false, false, false] rfl rfl (any_of HT_.out (by kernel_rfl)) (fun _ _ _ h => h) (Or.inl ⟨by rfl, ?_⟩) ?_ ?_
          rotate_left
          · intro w'
            go_simp
            with_reducible rfl
          rotate_left
          · simp only [Act.put, List.setIfInBounds_toArray, List.set_cons_zero, List.set_cons_succ, i64_w, i32_w]
            rfl
          refine pure_ (i := 8) (N := some 30) (v := ?_) (a' := ?_) #[true, true, false, false, true, true, false, false, true, false, false, false, false, false, false, false] rfl rfl (any_of HT_.out (by kernel_rfl)) (fun _ _ _ h => h) (Or.inl ⟨by rfl, ?_⟩) ?_ ?_
          rotate_left
          · intro w'
            go_simp
            with_reducible rfl
          rotate_left
          · simp only [Act.put, List.setIfInBounds_toArray, List.set_cons_zero, List.set_cons_succ, i64_w, i32_w]
            rfl
          refine pure_ (i := 10) (N := some 32) (v := ?_) (a' := ?_) #[true, true, false, false, true, true, false, false, true, false, true, false, false, false, false, false] rfl rfl (any_of HT_.out (by kernel_rfl)) (fun _ _ _ h => h) (Or.inl ⟨by rfl, ?_⟩) ?_ ?_
          rotate_left
          · intro w'
            go_simp
            with_reducible rfl
          rotate_left
          · simp only [Act.put, List.setIfInBounds_toArray, List.set_cons_zero, List.set_cons_succ, i64_w, i32_w]
            rfl
          refine pure_ (i := 11) (N := some 33) (v := ?_) (a' := ?_) #[true, true, false, false, true, true, false, false, true, false, true, true, false, false, false, false] rfl rfl (any_of HT_.out (by kernel_rfl)) (fun _ _ _ h => h) (Or.inl ⟨by rfl, ?_⟩) ?_ ?_
          rotate_left
          · intro w'
            go_simp
            with_reducible rfl
          rotate_left
          · simp only [Act.put, List.setIfInBounds_toArray, List.set_cons_zero, List.set_cons_succ, i64_w, i32_w]
            rfl
          refine take_ (i := 2) (N := some 24) (v := ?_) (a' := ?_) #[true, true, true, false, true, true, false, false, true, false, true, true, false, false, false, false] rfl rfl (take_ofW HT_.out HW_.out (by kernel_rfl)) (fun _ _ _ h => h) (Or.inl ⟨by rfl, ?_⟩) hHeld ?_ ?_
          rotate_left
          · rintro w' ⟨s0, s1, s2, s3, s4, s5, s6, s7, s8⟩
            go_simp
            with_reducible rfl
          rotate_left
          · simp only [Act.put, List.setIfInBounds_toArray, List.set_cons_zero, List.set_cons_succ, i64_w, i32_w]
            rfl
          refine pure_ (i := 3) (N := some 25) (v := ?_) (a' := ?_) #[true, true, true, true, true, true, false, false, true, false, true, true, false, false, false, false] rfl rfl (any_of HT_.out (by kernel_rfl)) (fun _ _ _ h => h) (Or.inl ⟨by rfl, ?_⟩) ?_ ?_
          rotate_left
          · intro w'
            go_simp
            with_reducible rfl
          rotate_left
          · simp only [Act.put, List.setIfInBounds_toArray, List.set_cons_zero, List.set_cons_succ, i64_w, i32_w]
            rfl
          refine take_ (i := 6) (N := some 28) (v := ?_) (a' := ?_) #[true, true, true, true, true, true, true, false, true, false, true, true, false, false, false, false] rfl rfl (take_ofW HT_.out HW_.out (by kernel_rfl)) (fun _ _ _ h => h) (Or.inl ⟨by rfl, ?_⟩) hHeld ?_ ?_
          rotate_left
          · rintro w' ⟨s0, s1, s2, s3, s4, s5, s6, s7, s8⟩
            go_simp
            with_reducible rfl
          rotate_left
          · simp only [Act.put, List.setIfInBounds_toArray, List.set_cons_zero, List.set_cons_succ, i64_w, i32_w]
            rfl
          refine take_ (i := 9) (N := some 31) (v := ?_) (a' := ?_) #[true, true, true, true, true, true, true, false, true, true, true, true, false, false, false, false] rfl rfl (take_ofW HT_.out HW_.out (by kernel_rfl)) (fun _ _ _ h => h) (Or.inl ⟨by rfl, ?_⟩) hHeld ?_ ?_
          rotate_left
          · rintro w' ⟨s0, s1, s2, s3, s4, s5, s6, s7, s8⟩
            go_simp
            with_reducible rfl
          rotate_left
          · simp only [Act.put, List.setIfInBounds_toArray, List.set_cons_zero, List.set_cons_succ, i64_w, i32_w]
            rfl
          refine take_ (i := 12) (N := some 34) (v := ?_) (a' := ?_) #[true, true, true, true, true, true, true, false, true, true, true, true, true, false, false, false] rfl rfl (take_ofW HT_.out HW_.out (by kernel_rfl)) (fun _ _ _ h => h) (Or.inl ⟨by rfl, ?_⟩) hHeld ?_ ?_
          rotate_left
          · rintro w' ⟨s0, s1, s2, s3, s4, s5, s6, s7, s8⟩
            go_simp
            with_reducible rfl
          rotate_left
          · simp only [Act.put, List.setIfInBounds_toArray, List.set_cons_zero, List.set_cons_succ, i64_w, i32_w]
            rfl
          refine one_ (i := 7) (N := some 29) #[true, true, true, true, true, true, true, true, true, true, true, true, true, false, false, false] rfl rfl (one_of HT_.out (by kernel_rfl)) (by decide) (fun K hK => ?_)
          refine goes_ Tryz.func86 (by kernel_rfl) rfl #[.int .i64 (wrap64 (1000 * a0_2)), .int .i64 a0_1] (by rfl) rfl rfl (by (try simp only [List.map_toArray, List.map_cons, List.map_nil]); first | done | rfl | (simp only [List.length_drop, List.length_take]; rfl)) ?_
          with_reducible refine (culletref04_Made.calls kj4 (wrap64 (1000 * a0_2)) a0_1 t380 t381 _ A14.out).mono ?_
          rintro e w18 ⟨rfl, hb⟩
          refine ⟨_, rfl, ?_⟩
          have n0_ := Aside0.mk (blk_below (g := gb379) (o := .cells #[.int .i64 a0_0, .int .i64 a0_1, .int .i64 a0_2, .int .i64 a0_3, .int .i64 a0_4, .int .i64 a0_5, .int .i64 a0_6, .int .i64 a0_7, .int .i64 a0_8] 88 (0, 0)) (by (with_reducible repeat (first | refine blk_drewN ?_ _ | refine blk_drew ?_ | refine blk_alloc ?_ _)); exact BK379.out) hb)
          have n1_ := Aside0.mk (below_step (by repeat (first | (with_reducible first | exact HB.out | apply below_alloc | apply pw_below_drewN | apply below_drew1 | refine below_set ?_ GE379.out) | exact HB.out)) hb)
          clear BK379
          clear HB
          have BK379 := n0_
          have HB := n1_
          clear n0_ n1_
          (try clear hb)
          (try clear hb2)
          (try clear hk)
          (try clear hi)
          refine hK.out _ _ ⟨(blk_cell BK379.out 0).trans rfl, (blk_cell BK379.out 1).trans rfl, (blk_cell BK379.out 2).trans rfl, (blk_cell BK379.out 3).trans rfl, (blk_cell BK379.out 4).trans rfl, (blk_cell BK379.out 5).trans rfl, (blk_cell BK379.out 6).trans rfl, (blk_cell BK379.out 7).trans rfl, (blk_cell BK379.out 8).trans rfl⟩ (fun hHeld => ?_)
          clear hK K
          refine norm_ (a' := ?_) ?_ ?_
          rotate_left
          · show Act.put _ (some 29) _ = _
            simp only [Act.put, List.setIfInBounds_toArray, List.set_cons_zero, List.set_cons_succ, i64_w, i32_w]
            rfl
          refine one_ (i := 13) (N := some 35) #[true, true, true, true, true, true, true, true, true, true, true, true, true, true, false, false] rfl rfl (one_of HT_.out (by kernel_rfl)) (by decide) (fun K hK => ?_)
          refine goes_ Tryz.func86 (by kernel_rfl) rfl #[.int .i64 a0_8, .int .i64 a0_6] (by rfl) rfl rfl (by (try simp only [List.map_toArray, List.map_cons, List.map_nil]); first | done | rfl | (simp only [List.length_drop, List.length_take]; rfl)) ?_
          with_reducible refine (culletref04_Made.calls kj4 a0_8 a0_6 t382 t383 _ A15.out).mono ?_
          rintro e w19 ⟨rfl, hb⟩
          refine ⟨_, rfl, ?_⟩
          have n0_ := Aside0.mk (blk_below (g := gb379) (o := .cells #[.int .i64 a0_0, .int .i64 a0_1, .int .i64 a0_2, .int .i64 a0_3, .int .i64 a0_4, .int .i64 a0_5, .int .i64 a0_6, .int .i64 a0_7, .int .i64 a0_8] 88 (0, 0)) (by (with_reducible repeat (first | refine blk_drewN ?_ _ | refine blk_drew ?_ | refine blk_alloc ?_ _)); exact BK379.out) hb)
          have n1_ := Aside0.mk (below_step (by repeat (first | (with_reducible first | exact HB.out | apply below_alloc | apply pw_below_drewN | apply below_drew1 | refine below_set ?_ GE379.out) | exact HB.out)) hb)
          clear BK379
          clear HB
          have BK379 := n0_
          have HB := n1_
          clear n0_ n1_
          (try clear hb)
          (try clear hb2)
          (try clear hk)
          (try clear hi)
          refine hK.out _ _ ⟨(blk_cell BK379.out 0).trans rfl, (blk_cell BK379.out 1).trans rfl, (blk_cell BK379.out 2).trans rfl, (blk_cell BK379.out 3).trans rfl, (blk_cell BK379.out 4).trans rfl, (blk_cell BK379.out 5).trans rfl, (blk_cell BK379.out 6).trans rfl, (blk_cell BK379.out 7).trans rfl, (blk_cell BK379.out 8).trans rfl⟩ (fun hHeld => ?_)
          clear hK K
          refine norm_ (a' := ?_) ?_ ?_
          rotate_left
          · show Act.put _ (some 35) _ = _
            simp only [Act.put, List.setIfInBounds_toArray, List.set_cons_zero, List.set_cons_succ, i64_w, i32_w]
            rfl
          refine one_ (i := 14) (N := some 36) #[true, true, true, true, true, true, true, true, true, true, true, true, true, true, true, false] rfl rfl (one_of HT_.out (by kernel_rfl)) (by decide) (fun K hK => ?_)
          refine goes_ Tryz.func85 (by kernel_rfl) rfl #[.agg #[.int .i64 t380, .int .i64 t381], .agg #[.int .i64 t382, .int .i64 t383]] (by rfl) rfl rfl (by (try simp only [List.map_toArray, List.map_cons, List.map_nil]); first | done | rfl | (simp only [List.length_drop, List.length_take]; rfl)) ?_
          with_reducible refine (culletref04_Less.calls kj4 t380 t381 t382 t383 t384 _ A16.out).mono ?_
          rintro e w20 ⟨rfl, hb⟩
          refine ⟨_, rfl, ?_⟩
          have n0_ := Aside0.mk (blk_below (g := gb379) (o := .cells #[.int .i64 a0_0, .int .i64 a0_1, .int .i64 a0_2, .int .i64 a0_3, .int .i64 a0_4, .int .i64 a0_5, .int .i64 a0_6, .int .i64 a0_7, .int .i64 a0_8] 88 (0, 0)) (by (with_reducible repeat (first | refine blk_drewN ?_ _ | refine blk_drew ?_ | refine blk_alloc ?_ _)); exact BK379.out) hb)
          have n1_ := Aside0.mk (below_step (by repeat (first | (with_reducible first | exact HB.out | apply below_alloc | apply pw_below_drewN | apply below_drew1 | refine below_set ?_ GE379.out) | exact HB.out)) hb)
          clear BK379
          clear HB
          have BK379 := n0_
          have HB := n1_
          clear n0_ n1_
          (try clear hb)
          (try clear hb2)
          (try clear hk)
          (try clear hi)
          refine hK.out _ _ ⟨(blk_cell BK379.out 0).trans rfl, (blk_cell BK379.out 1).trans rfl, (blk_cell BK379.out 2).trans rfl, (blk_cell BK379.out 3).trans rfl, (blk_cell BK379.out 4).trans rfl, (blk_cell BK379.out 5).trans rfl, (blk_cell BK379.out 6).trans rfl, (blk_cell BK379.out 7).trans rfl, (blk_cell BK379.out 8).trans rfl⟩ (fun hHeld => ?_)
          clear hK K
          refine norm_ (a' := ?_) ?_ ?_
          rotate_left
          · show Act.put _ (some 36) _ = _
            simp only [Act.put, List.setIfInBounds_toArray, List.set_cons_zero, List.set_cons_succ, i64_w, i32_w]
            rfl
          refine pure_ (i := 15) (N := some 2) (v := ?_) (a' := ?_) #[true, true, true, true, true, true, true, true, true, true, true, true, true, true, true, true] rfl rfl (any_of HT_.out (by kernel_rfl)) (fun _ _ _ h => h) (Or.inl ⟨by rfl, ?_⟩) ?_ ?_
          rotate_left
          · intro w'
            go_simp
            with_reducible rfl
          rotate_left
          · simp only [Act.put, List.setIfInBounds_toArray, List.set_cons_zero, List.set_cons_succ, i64_w, i32_w]
            rfl
          refine done_ (done_of HT_.out (by kernel_rfl)) ?_
          try go_wp2
          go_ret
          exact ⟨by first | rfl | (simp [errW_none, errW_some] <;> rfl) | (simp [*, errW_none, errW_some] <;> rfl), by repeat (first | (with_reducible first | exact HB.out | apply below_alloc | apply pw_below_drewN | apply below_drew1 | refine below_set ?_ GE379.out) | exact HB.out)⟩

end Go.Proofs.YtbmkbokkmmdjdaaGreat.Q
end
section
namespace Go.Proofs.YtbmkbokkmmdjdaaGreat
open Go.RowKit Go.Proofs.YtbmkbokkmmdjdaaGreatW.PrintWords Go.Proofs.YtbmkbokkmmdjdaaGreatW.PrintLast Go.Proofs.YtbmkbokkmmdjdaaGreatW.PrintMore
open Q Go.Shelf
set_option linter.unusedVariables false
set_option linter.unusedSimpArgs false
theorem mono_le {α : Type} {f : Nat → Option α} (h : ∀ k, LeO (f k) (f (k + 1))) {k : Nat} {r : α} (hk : f k = some r) : ∀ d, f (k + d) = some r
  | 0 => hk
  | d + 1 => h (k + d) r (mono_le h hk d)
theorem div_f : ∀ (n a b : Nat), b ≤ n → ∃ k, culletref04_Divisor.l0 k a b = some (Nat.gcd a b : Nat)
  | n, a, 0, _ => ⟨1, by simp [culletref04_Divisor.l0]⟩
  | 0, a, b + 1, h => absurd h (by omega)
  | n + 1, a, b + 1, h => by
    have hlt : a % (b + 1) < b + 1 := Nat.mod_lt _ (by omega)
    obtain ⟨k, hk⟩ := div_f n (b + 1) (a % (b + 1)) (by omega)
    refine ⟨k + 1, ?_⟩
    unfold culletref04_Divisor.l0
    rw [if_neg (by omega)]
    rw [show Int.tmod (a : Int) ((b + 1 : Nat) : Int) = ((a % (b + 1) : Nat) : Int) from rfl, hk]
    rw [Nat.gcd_comm (b + 1) (a % (b + 1)), ← Nat.gcd_rec (b + 1) a, Nat.gcd_comm]
theorem made_f {a b : Nat} (ha : a ≤ 1000000000000000000) (hb : 0 < b) (hb2 : b ≤ 1000000000000000000) : ∃ k, culletref04_Made.f k a b = some (((a / Nat.gcd a b : Nat) : Int), ((b / Nat.gcd a b : Nat) : Int)) := by
  obtain ⟨k, hk⟩ := div_f b a b (Nat.le_refl _)
  refine ⟨k, ?_⟩
  unfold culletref04_Made.f culletref04_Divisor.f
  have hg : 0 < Nat.gcd a b := Nat.gcd_pos_of_pos_right _ hb
  have hm : mx (a : Int) (wrap64 (-(a : Int))) = a := by
    rw [wrap64_id (by omega) (by omega)]
    unfold mx
    split <;> omega
  have q1 : a / Nat.gcd a b ≤ a := Nat.div_le_self _ _
  have q2 : b / Nat.gcd a b ≤ b := Nat.div_le_self _ _
  rw [hm, hk]
  show (if ((Nat.gcd a b : Nat) : Int) = 0 then none else some (wrap64 (Int.tdiv (a : Int) (Nat.gcd a b : Nat)), wrap64 (Int.tdiv (b : Int) (Nat.gcd a b : Nat)))) = _
  rw [if_neg (by omega)]
  rw [show Int.tdiv (a : Int) (Nat.gcd a b : Nat) = ((a / Nat.gcd a b : Nat) : Int) from rfl, show Int.tdiv (b : Int) (Nat.gcd a b : Nat) = ((b / Nat.gcd a b : Nat) : Int) from rfl]
  generalize a / Nat.gcd a b = x at *
  generalize b / Nat.gcd a b = y at *
  rw [wrap64_id (by omega) (by omega), wrap64_id (by omega) (by omega)]
theorem floor_f {a b : Nat} (ha : a ≤ 1000000000000000000) (hb : 0 < b) : culletref04_floor.f a b = some ((a / b : Nat) : Int) := by
  unfold culletref04_floor.f
  have q1 : a / b ≤ a := Nat.div_le_self _ _
  rw [if_neg (by omega), show Int.tmod (a : Int) (b : Int) = ((a % b : Nat) : Int) from rfl, if_neg (by omega), show Int.tdiv (a : Int) (b : Int) = ((a / b : Nat) : Int) from rfl]
  generalize a / b = q at *
  rw [wrap64_id (by omega) (by omega)]
theorem order_f (n : Nat) : ∀ (a b c d : Nat), b + d ≤ n → a ≤ 1000000000000000000 → c ≤ 1000000000000000000 → b ≤ 1000000000000000000 → d ≤ 1000000000000000000 → 0 < b → 0 < d → ∃ k r, culletref04_Order.f k a b c d = some r ∧ (r < 0 ↔ a * d < c * b) := by
  induction n with
  | zero => intro a b c d hn _ _ _ _ hb hd; exact absurd hn (by omega)
  | succ n ih =>
    intro a b c d hn ha hc hb2 hd2 hb hd
    have e1 := Nat.div_add_mod a b
    have e2 := Nat.div_add_mod c d
    have l1 : a % b < b := Nat.mod_lt _ hb
    have l2 : c % d < d := Nat.mod_lt _ hd
    have f1 := floor_f ha hb
    have f2 := floor_f hc hd
    generalize hp : a / b = p at *
    generalize hq : c / d = q at *
    generalize hr : a % b = r at *
    generalize hs : c % d = s at *
    clear hp hq hr hs
    rcases Nat.lt_trichotomy p q with h | h | h
    · refine ⟨1, -1, ?_, ?_⟩
      · unfold culletref04_Order.f
        rw [f1, f2]
        simp only [Option.bind_some]
        rw [if_pos (by omega)]
      · refine ⟨fun _ => ?_, fun _ => by omega⟩
        have h1 : a < b * (p + 1) := by rw [Nat.mul_add]; omega
        have h2 : d * (p + 1) ≤ d * q := Nat.mul_le_mul_left _ h
        calc a * d < (b * (p + 1)) * d := Nat.mul_lt_mul_of_pos_right h1 hd
          _ = (d * (p + 1)) * b := by rw [Nat.mul_assoc, Nat.mul_comm (p + 1) d, Nat.mul_comm b]
          _ ≤ c * b := Nat.mul_le_mul_right _ (by omega)
    · subst h
      have g1 : wrap64 ((a : Int) - wrap64 ((p : Int) * (b : Int))) = (r : Int) := by
        have : (p : Int) * (b : Int) = ((b * p : Nat) : Int) := by rw [Int.natCast_mul, Int.mul_comm]
        rw [this, wrap64_id (n := ((b * p : Nat) : Int)) (by omega) (by omega), wrap64_id (by omega) (by omega)]
        omega
      have g2 : wrap64 ((c : Int) - wrap64 ((p : Int) * (d : Int))) = (s : Int) := by
        have : (p : Int) * (d : Int) = ((d * p : Nat) : Int) := by rw [Int.natCast_mul, Int.mul_comm]
        rw [this, wrap64_id (n := ((d * p : Nat) : Int)) (by omega) (by omega), wrap64_id (by omega) (by omega)]
        omega
      have key : a * d < c * b ↔ r * d < s * b := by
        have x1 : a * d = b * p * d + r * d := by rw [← Nat.add_mul, e1]
        have x2 : c * b = d * p * b + s * b := by rw [← Nat.add_mul, e2]
        have x3 : b * p * d = d * p * b := by rw [Nat.mul_comm b p, Nat.mul_comm d p, Nat.mul_assoc, Nat.mul_assoc, Nat.mul_comm b d]
        omega
      have hf : ∀ k, culletref04_Order.f (k + 1) a b c d = culletref04_Order.j0 k r s (if r = 0 then ((s : Int) == 0) else false) a b c d := fun k => by
        conv => lhs; unfold culletref04_Order.f
        rw [f1, f2]
        simp only [Option.bind_some]
        rw [if_neg (by omega), if_neg (by omega), g1, g2]
        by_cases h0 : r = 0
        · rw [if_pos (by omega), if_pos h0]
        · rw [if_neg (by omega), if_neg h0]
      clear g1 g2 f1 f2
      by_cases h0 : r = 0
      · subst h0
        by_cases h1 : s = 0
        · subst h1
          refine ⟨1 + 1, 0, (hf 1).trans ?_, ?_⟩
          · unfold culletref04_Order.j0; simp
          · rw [key]; simp
        · refine ⟨1 + 1, -1, (hf 1).trans ?_, ?_⟩
          · unfold culletref04_Order.j0
            have : ((s : Int) == 0) = false := by simp [h1]
            simp [this]
          · rw [key]
            have : 0 < s * b := Nat.mul_pos (by omega) hb
            simp; omega
      · by_cases h1 : s = 0
        · subst h1
          refine ⟨1 + 1, 1, (hf 1).trans ?_, ?_⟩
          · unfold culletref04_Order.j0
            simp [h0]
          · rw [key]; simp
        · obtain ⟨k, x, hk, hx⟩ := ih d s b r (by omega) hd2 hb2 (by omega) (by omega) (by omega) (by omega)
          refine ⟨k + 1 + 1, x, (hf (k + 1)).trans ?_, ?_⟩
          · unfold culletref04_Order.j0
            rw [if_neg h0]
            simp only [Bool.false_eq_true, if_false]
            rw [if_neg (by omega), if_neg (by omega), hk]
            rfl
          · rw [key, hx, Nat.mul_comm d r, Nat.mul_comm b s]
    · refine ⟨1, 1, ?_, ?_⟩
      · unfold culletref04_Order.f
        rw [f1, f2]
        simp only [Option.bind_some]
        rw [if_neg (by omega), if_pos (by omega)]
      · refine ⟨fun h => absurd h (by decide), fun hlt => absurd hlt (by
          have h1 : c < d * (q + 1) := by rw [Nat.mul_add]; omega
          have h2 : b * (q + 1) ≤ b * p := Nat.mul_le_mul_left _ h
          have h3 : c * b ≤ a * d := by
            calc c * b ≤ (d * (q + 1)) * b := Nat.mul_le_mul_right _ (by omega)
              _ = (b * (q + 1)) * d := by rw [Nat.mul_assoc, Nat.mul_comm (q + 1) b, Nat.mul_comm d]
              _ ≤ a * d := Nat.mul_le_mul_right _ (by omega)
          omega)⟩
def overN (GH RL PL CL : Nat) : Bool := if CL = 0 then false else if GH = 0 ∨ PL = 0 ∨ RL = 0 then true else decide (1000 * RL * PL < CL * GH)
theorem low_lt {a b c d : Nat} (hb : 0 < b) (hd : 0 < d) : a / Nat.gcd a b * (d / Nat.gcd c d) < c / Nat.gcd c d * (b / Nat.gcd a b) ↔ a * d < c * b := by
  have g1 : 0 < Nat.gcd a b := Nat.gcd_pos_of_pos_right _ hb
  have g2 : 0 < Nat.gcd c d := Nat.gcd_pos_of_pos_right _ hd
  obtain ⟨x, hx⟩ := Nat.gcd_dvd_left a b
  obtain ⟨y, hy⟩ := Nat.gcd_dvd_right a b
  obtain ⟨z, hz⟩ := Nat.gcd_dvd_left c d
  obtain ⟨t, ht⟩ := Nat.gcd_dvd_right c d
  have ex : a / Nat.gcd a b = x := Nat.div_eq_of_eq_mul_right g1 hx
  have ey : b / Nat.gcd a b = y := Nat.div_eq_of_eq_mul_right g1 hy
  have ez : c / Nat.gcd c d = z := Nat.div_eq_of_eq_mul_right g2 hz
  have et : d / Nat.gcd c d = t := Nat.div_eq_of_eq_mul_right g2 ht
  rw [ex, ey, ez, et]
  generalize Nat.gcd a b = g at *
  generalize Nat.gcd c d = k at *
  clear ex ey ez et
  subst hx
  have e1 : g * x * d = (g * k) * (x * t) := by rw [ht]; rw [Nat.mul_assoc g x, Nat.mul_left_comm x k t, ← Nat.mul_assoc g k]
  have e2 : c * b = (g * k) * (z * y) := by rw [hz, hy]; rw [Nat.mul_mul_mul_comm, Nat.mul_comm k g]
  rw [e1, e2]
  exact (Nat.mul_lt_mul_left (Nat.mul_pos g1 g2)).symm
theorem over_f {GH RL PL CL : Nat} (h1 : GH ≤ 1000000000000000) (h2 : RL ≤ 1000000000000) (h3 : PL ≤ 1000000000000000) (h4 : CL ≤ 1000000000000000) (a0 a3 a4 a5 a7 : Int) :
    ∃ k, culletref09_Over.f k a0 GH RL a3 a4 a5 PL a7 CL = some (overN GH RL PL CL) := by
  unfold overN
  by_cases c1 : CL = 0
  · refine ⟨0, ?_⟩
    unfold culletref09_Over.f
    rw [if_pos (by omega), if_pos c1]
  rw [if_neg c1]
  by_cases c2 : GH = 0
  · refine ⟨1, ?_⟩
    unfold culletref09_Over.f culletref09_Over.j0
    rw [if_neg (by omega), if_pos (by omega), if_pos (Or.inl c2)]
    rfl
  by_cases c3 : PL = 0
  · refine ⟨1, ?_⟩
    unfold culletref09_Over.f culletref09_Over.j0
    rw [if_neg (by omega), if_neg (by omega), if_pos (by omega), if_pos (Or.inr (Or.inl c3))]
    rfl
  by_cases c4 : RL = 0
  · refine ⟨1, ?_⟩
    unfold culletref09_Over.f culletref09_Over.j0
    rw [if_neg (by omega), if_neg (by omega), if_neg (by omega), if_pos (Or.inr (Or.inr c4))]
    have : ((RL : Int) == 0) = true := by simp [c4]
    rw [this]
    rfl
  rw [if_neg (show ¬ (GH = 0 ∨ PL = 0 ∨ RL = 0) by omega)]
  obtain ⟨k1, m1⟩ := made_f (a := 1000 * RL) (b := GH) (by omega) (by omega) (by omega)
  obtain ⟨k2, m2⟩ := made_f (a := CL) (b := PL) (by omega) (by omega) (by omega)
  have q1 : 1000 * RL / Nat.gcd (1000 * RL) GH ≤ 1000 * RL := Nat.div_le_self _ _
  have q2 : GH / Nat.gcd (1000 * RL) GH ≤ GH := Nat.div_le_self _ _
  have q3 : CL / Nat.gcd CL PL ≤ CL := Nat.div_le_self _ _
  have q4 : PL / Nat.gcd CL PL ≤ PL := Nat.div_le_self _ _
  have g1 : 0 < Nat.gcd (1000 * RL) GH := Nat.gcd_pos_of_pos_right _ (by omega)
  have g2 : 0 < Nat.gcd CL PL := Nat.gcd_pos_of_pos_right _ (by omega)
  have p1 : 0 < GH / Nat.gcd (1000 * RL) GH := Nat.div_pos (Nat.gcd_le_right _ (by omega)) g1
  have p2 : 0 < PL / Nat.gcd CL PL := Nat.div_pos (Nat.gcd_le_right _ (by omega)) g2
  have lw := low_lt (a := 1000 * RL) (b := GH) (c := CL) (d := PL) (by omega) (by omega)
  clear g1 g2
  generalize 1000 * RL / Nat.gcd (1000 * RL) GH = x at *
  generalize GH / Nat.gcd (1000 * RL) GH = y at *
  generalize CL / Nat.gcd CL PL = z at *
  generalize PL / Nat.gcd CL PL = t at *
  obtain ⟨k3, r, o3, ho⟩ := order_f (y + t) x y z t (Nat.le_refl _) (by omega) (by omega) (by omega) (by omega) p1 p2
  have l3 : culletref04_Less.f k3 x y z t = some (decide (r < 0)) := by unfold culletref04_Less.f; rw [o3]; rfl
  have n1 := mono_le (f := fun k => culletref04_Made.f k ((1000 * RL : Nat) : Int) GH) (culletref04_Made.mono _ _) m1 (k2 + k3)
  have n2 := mono_le (f := fun k => culletref04_Made.f k (CL : Int) PL) (culletref04_Made.mono _ _) m2 (k1 + k3)
  have n3 := mono_le (f := fun k => culletref04_Less.f k (x : Int) y z t) (culletref04_Less.mono _ _ _ _) l3 (k1 + k2)
  rw [show k1 + (k2 + k3) = k1 + k2 + k3 by omega] at n1
  rw [show k2 + (k1 + k3) = k1 + k2 + k3 by omega] at n2
  rw [show k3 + (k1 + k2) = k1 + k2 + k3 by omega] at n3
  refine ⟨k1 + k2 + k3 + 1, ?_⟩
  unfold culletref09_Over.f culletref09_Over.j0
  rw [if_neg (by omega), if_neg (by omega), if_neg (by omega)]
  have hz : ((RL : Int) == 0) = false := by simp [c4]
  have hw : wrap64 (1000 * (RL : Int)) = ((1000 * RL : Nat) : Int) := by rw [wrap64_id (by omega) (by omega)]; omega
  rw [hz]
  show (if (false = true) then some true else (culletref04_Made.f (k1 + k2 + k3) (wrap64 (1000 * (RL : Int))) GH).bind _) = _
  rw [if_neg (by decide), hw, n1]
  show (culletref04_Made.f (k1 + k2 + k3) (CL : Int) PL).bind _ = _
  rw [n2]
  show (culletref04_Less.f (k1 + k2 + k3) (x : Int) y z t).bind _ = _
  rw [n3]
  have e : decide (r < 0) = decide (1000 * RL * PL < CL * GH) := decide_eq_decide.2 (ho.trans lw)
  rw [e]
  rfl
theorem above_mul {a b c d : Nat} (ha : a < 18446744073709551616) (hb : b < 18446744073709551616) (hc : c < 18446744073709551616) (hd : d < 18446744073709551616) : above (mulP a b) (mulP c d) = decide (c * d < a * b) := by
  have u : ∀ n : Nat, n < 18446744073709551616 → uN (n : Int) = n := fun n hn => by unfold uN; omega
  unfold above mulP
  simp only
  rw [u a ha, u b hb, u c hc, u d hd]
  generalize a * b = p
  generalize c * d = q
  by_cases h : q < p
  · rw [decide_eq_true h]
    by_cases h1 : q / 18446744073709551616 < p / 18446744073709551616
    · rw [decide_eq_true (by omega)]; rfl
    · have e : p / 18446744073709551616 = q / 18446744073709551616 := by omega
      rw [e]
      have : q % 18446744073709551616 < p % 18446744073709551616 := by omega
      rw [decide_eq_true (p := ((q % 18446744073709551616 : Nat) : Int) < ((p % 18446744073709551616 : Nat) : Int)) (by omega)]
      simp
  · rw [decide_eq_false h]
    have h1 : ¬ p / 18446744073709551616 > q / 18446744073709551616 := by omega
    rw [decide_eq_false (p := ((q / 18446744073709551616 : Nat) : Int) < ((p / 18446744073709551616 : Nat) : Int)) (by omega)]
    by_cases e : p / 18446744073709551616 = q / 18446744073709551616
    · have : ¬ q % 18446744073709551616 < p % 18446744073709551616 := by omega
      rw [decide_eq_false (p := ((q % 18446744073709551616 : Nat) : Int) < ((p % 18446744073709551616 : Nat) : Int)) (by omega)]
      simp
    · simp
      omega
end Go.Proofs.YtbmkbokkmmdjdaaGreat
end
