-- N67 N7 D2 D3 (wip/pack9.py)
import Derived.Test.YtbmkbokkmmdjdaaV2
import Derived.Test.YtbmkbokkmmdjdaaV20
import Derived.Test.YtbmkbokkmmdjdaaV21
import Derived.Test.YtbmkbokkmmdjdaaV22
section
namespace Go.Proofs.Ytbmkbokkmmdjdaa.Q
open Go.RowKit Go.Proofs.YtbmkbokkmmdjdaaW.PrintWords Go.Proofs.YtbmkbokkmmdjdaaW.PrintLast Go.Proofs.YtbmkbokkmmdjdaaW.PrintMore
attribute [local go_sem] max2_int min2_int max_two min_two max_three min_three max_four min_four   -- for this text's walks alone
set_option linter.unusedVariables false
set_option linter.unusedSimpArgs false

def culletref09_period.l0 : Nat → List (S36) → Int → Int → Int → Option (Int)
  | 0, _, _, _, _ => none
  | k + 1, x0, x1, x5, x6 => if x6 < x1 then (if 0 ≤ x6 then (if x6 < (x0.length : Int) then (if ((rd_T36 x0 x6).f1) = 6 then (culletref09_period.l0 k x0 x1 (wrap64 (x5 + 1)) (wrap64 (x6 + 1))) else (culletref09_period.l0 k x0 x1 x5 (wrap64 (x6 + 1)))) else (none)) else (none)) else (some x5)
def culletref09_period.f (k : Nat) (l0 : List (S36)) (a1 : Int) : Option (Int) := culletref09_period.l0 k l0 a1 0 0
theorem culletref09_period.mono_l : ∀ k, (∀ y0 y1 y2 y3, LeO (culletref09_period.l0 k y0 y1 y2 y3) (culletref09_period.l0 (k + 1) y0 y1 y2 y3))
  | 0 => fun _ _ _ _ r h => by simp [culletref09_period.l0] at h
  | k + 1 => by
    have ih0 := culletref09_period.mono_l k
    · intro y0 y1 y2 y3
      unfold culletref09_period.l0
      repeat' first
      | (with_reducible exact ih0 _ _ _ _)
      | (with_reducible exact LeO.refl _)
      | (with_reducible exact LeO.none _)
      | (with_reducible refine LeO.ite ?_ ?_)
      | (with_reducible refine LeO.bind ?_ (fun _ => ?_))
      | exact ih0 _ _ _ _
      | exact LeO.none _
      | refine LeO.ite ?_ ?_
      | refine LeO.bind ?_ (fun _ => ?_)
theorem culletref09_period.mono : ∀ a0 a1 k, LeO (culletref09_period.f k a0 a1) (culletref09_period.f (k + 1) a0 a1) := by
  intro a0 a1 k
  have ih0 := culletref09_period.mono_l k
  unfold culletref09_period.f
  repeat' first
      | (with_reducible exact ih0 _ _ _ _)
      | (with_reducible exact LeO.refl _)
      | (with_reducible exact LeO.none _)
      | (with_reducible refine LeO.ite ?_ ?_)
      | (with_reducible refine LeO.bind ?_ (fun _ => ?_))
      | exact ih0 _ _ _ _
      | exact LeO.none _
      | refine LeO.ite ?_ ?_
      | refine LeO.bind ?_ (fun _ => ?_)
set_option maxHeartbeats 8000000 in
set_option maxRecDepth 100000 in
theorem culletref09_period.calls (k : Nat) (A0 : Option Addr) (c0 : Nat) (l0 : List (S36)) (a1 : Int) (r : Int) (w : World) (hr0 : Kd.C k36 w A0 l0.length l0) (hc0 : l0.length ≤ c0) (h : culletref09_period.f k l0 a1 = some r) :
    Calls Try.prog 67 #[.slice A0 l0.length c0, .int .i64 a1] w fun e w' => e = .returned (.int .i64 r) ∧ Drawn0 w w' := by
  have HR0 := Aside0.mk hr0
  have HC0 := Aside0.mk hc0
  clear hr0 hc0
  have H : (culletref09_period.l0 k l0 a1 0 0) = some r := h
  clear h
  have H' := Aside0.mk H
  clear H
  go_enter Try.func67, Try.ntmps67
  go_wp2
  go_loopg [5, 6] k (fun kq v5 v6 w' => ∃ (x5_1 : Int) (x6_1 : Int), v5 = .int .i64 x5_1 ∧ v6 = .int .i64 x6_1 ∧ Aside0 (culletref09_period.l0 kq l0 a1 x5_1 x6_1 = some r) ∧ Aside0 (kq ≤ k) ∧ Drawn0 w w')
  case atStart => exact ⟨(0), (0), (by first | rfl | (simp; done) | (simp [*]; done)), (by first | rfl | (simp; done) | (simp [*]; done)), H', ⟨Nat.le_refl _⟩, by repeat (first | exact Drawn0.refl _ | apply Drawn0.step)⟩
  case round =>
    clear H'
    try clear p2
    obtain ⟨x5_1, x6_1, rfl, rfl, HA, HK1, ⟨m1, rfl⟩⟩ := hrel
    cases gk with
    | zero => exact absurd HA.out (by simp [culletref09_period.l0])
    | succ k1 =>
      have H := HA.out
      clear HA
      simp only [culletref09_period.l0] at H
      by_cases c3 : x6_1 < a1
      · rw [if_pos c3] at H
        have c3b0 : decide (x6_1 < a1) = true := decide_eq_true c3
        clear c3
        by_cases c4 : 0 ≤ x6_1
        · rw [if_pos c4] at H
          have c4b0 : decide (0 ≤ x6_1) = true := decide_eq_true c4
          clear c4
          by_cases c5 : x6_1 < (l0.length : Int)
          · rw [if_pos c5] at H
            have c5b0 : decide (x6_1 < (l0.length : Int)) = true := decide_eq_true c5
            clear c5
            by_cases c6 : ((rd_T36 l0 x6_1).f1) = 6
            · rw [if_pos c6] at H
              have c6b0 : (((rd_T36 l0 x6_1).f1) == 6) = true := beq_iff_eq.mpr c6
              have c6b1 : (((rd_T36 l0 x6_1).f1) != 6) = false := bne_eq_false_iff_eq.mpr c6
              clear c6
              have H' := Aside0.mk H
              clear H
              have p108 : 0 ≤ (x6_1 : Int) := of_decide_eq_true (by first | (with_reducible assumption) | assumption)
              have q108 : x6_1 < (l0.length : Int) := of_decide_eq_true (by first | (with_reducible assumption) | assumption)
              obtain ⟨ad108, e108, hx108_0, hx108_1, hx108_2, hx108_3, hx108_4, hx108_5, hx108_6, hx108_7, hx108_8, hx108_9, hx108_10⟩ := at_T36 HR0.out x6_1 p108 q108
              cases e108
              replace p108 := eq_true p108
              replace q108 := eq_true q108
              go_wp2
              go_roundg k1
              case measure => have := HK1.out; omega
              case rel => exact ⟨(wrap64 (x5_1 + 1)), (wrap64 (x6_1 + 1)), (by first | rfl | (simp; done) | (simp [*]; done)), (by first | rfl | (simp; done) | (simp [*]; done)), H', ⟨by have := HK1.out; omega⟩, by repeat (first | exact Drawn0.refl _ | apply Drawn0.step)⟩
            · rw [if_neg c6] at H
              have c6b0 : (((rd_T36 l0 x6_1).f1) == 6) = false := beq_eq_false_iff_ne.mpr c6
              have c6b1 : (((rd_T36 l0 x6_1).f1) != 6) = true := bne_iff_ne.mpr c6
              have H' := Aside0.mk H
              clear H
              have p108 : 0 ≤ (x6_1 : Int) := of_decide_eq_true (by first | (with_reducible assumption) | assumption)
              have q108 : x6_1 < (l0.length : Int) := of_decide_eq_true (by first | (with_reducible assumption) | assumption)
              obtain ⟨ad108, e108, hx108_0, hx108_1, hx108_2, hx108_3, hx108_4, hx108_5, hx108_6, hx108_7, hx108_8, hx108_9, hx108_10⟩ := at_T36 HR0.out x6_1 p108 q108
              cases e108
              replace p108 := eq_true p108
              replace q108 := eq_true q108
              go_wp2
              go_roundg k1
              case measure => have := HK1.out; omega
              case rel => exact ⟨(x5_1), (wrap64 (x6_1 + 1)), (by first | rfl | (simp; done) | (simp [*]; done)), (by first | rfl | (simp; done) | (simp [*]; done)), H', ⟨by have := HK1.out; omega⟩, by repeat (first | exact Drawn0.refl _ | apply Drawn0.step)⟩
          · rw [if_neg c5] at H
            exact absurd H (by simp)
        · rw [if_neg c4] at H
          exact absurd H (by simp)
      · rw [if_neg c3] at H
        have c3b0 : decide (x6_1 < a1) = false := decide_eq_false c3
        clear c3
        obtain rfl := Option.some.inj H
        go_wp2
        go_ret
        exact ⟨by first | rfl | (simp; done) | (simp [*]; done), by repeat (first | exact Drawn0.refl _ | apply Drawn0.step)⟩

end Go.Proofs.Ytbmkbokkmmdjdaa.Q
end
section
namespace Go.Proofs.Ytbmkbokkmmdjdaa.Q
open Go.RowKit Go.Proofs.YtbmkbokkmmdjdaaW.PrintWords Go.Proofs.YtbmkbokkmmdjdaaW.PrintLast Go.Proofs.YtbmkbokkmmdjdaaW.PrintMore
attribute [local go_sem] max2_int min2_int max_two min_two max_three min_three max_four min_four   -- for this text's walks alone
set_option linter.unusedVariables false
set_option linter.unusedSimpArgs false

def culletlaw09_thick.f (a0_0 : Int) (a0_1 : Int) (a0_2 : Int) (a0_3 : Int) (l0_4 : List (S36)) : Option (Bool) := if (l0_4.length : Int) > 40 then (if (l0_4.length : Int) ≤ 256 then (some true) else (some (decide ((l0_4.length : Int) > 300)))) else (some (decide ((l0_4.length : Int) > 300)))
set_option maxHeartbeats 8000000 in
set_option maxRecDepth 100000 in
theorem culletlaw09_thick.calls (a0_0 : Int) (a0_1 : Int) (a0_2 : Int) (a0_3 : Int) (A0_4 : Option Addr) (c0_4 : Nat) (l0_4 : List (S36)) (r : Bool) (w : World) (hr0_4 : Kd.C k36 w A0_4 l0_4.length l0_4) (hc0_4 : l0_4.length ≤ c0_4) (h : culletlaw09_thick.f a0_0 a0_1 a0_2 a0_3 l0_4 = some r) :
    Calls Try.prog 7 #[.agg #[.int .i64 a0_0, .int .i64 a0_1, .int .i64 a0_2, .int .i64 a0_3, .slice A0_4 l0_4.length c0_4]] w fun e w' => e = .returned (.bool r) ∧ Below w.heap.size w w' := by
  have hu26 := Try.underlying26
  have HR0_4 := Aside0.mk hr0_4
  have HC0_4 := Aside0.mk hc0_4
  clear hr0_4 hc0_4
  have HB := Aside0.mk (Below.refl w.heap.size w)
  have H : (if (l0_4.length : Int) > 40 then (if (l0_4.length : Int) ≤ 256 then (some true) else (some (decide ((l0_4.length : Int) > 300)))) else (some (decide ((l0_4.length : Int) > 300)))) = some r := h
  clear h
  by_cases c2 : (l0_4.length : Int) > 40
  · rw [if_pos c2] at H
    have c2b0 : decide (40 < (l0_4.length : Int)) = true := decide_eq_true c2
    have c2b1 : decide (40 < l0_4.length) = true := decide_eq_true (by omega)
    clear c2
    by_cases c3 : (l0_4.length : Int) ≤ 256
    · rw [if_pos c3] at H
      have c3b0 : decide ((l0_4.length : Int) ≤ 256) = true := decide_eq_true c3
      have c3b1 : decide (l0_4.length ≤ 256) = true := decide_eq_true (by omega)
      clear c3
      obtain rfl := Option.some.inj H
      go_enter Try.func7, Try.ntmps7
      go_wp2_with (first | ((with_reducible refine gate_dst (N := 1) rfl ?_); (try (refine gate_guard (by rfl) ?_; dsimp only)); refine box_event ?hg (N := 1) ?hd (cs := #[.int .i64 a0_0, .int .i64 a0_1, .int .i64 a0_2, .int .i64 a0_3, .slice A0_4 l0_4.length c0_4]) (t := 26) ?hr ?_; (case hd => rfl); (case hg => rfl); (case hr => first | (go_simp; done) | (go_simp; rfl)); intro gb101 hg w4 hbox hb; have n0_ := Aside0.mk (below_step (by repeat (first | (with_reducible first | exact HB.out | apply below_alloc | apply pw_below_drewN | apply below_drew1) | exact HB.out)) hb); have n1_ := Aside0.mk (hbox); have n2_ := Aside0.mk ((by rw [hg]; exact (below_size (by repeat (first | (with_reducible first | exact HB.out | apply below_alloc | apply pw_below_drewN | apply below_drew1) | exact HB.out))) : w.heap.size ≤ gb101)); have n3_ := Aside0.mk ((by rw [hg]; exact (below_size (by repeat (first | (with_reducible first | exact HB.out | apply below_alloc | apply pw_below_drewN | apply below_drew1) | exact HB.out))) : w.heap.size ≤ gb101)); clear HB; have HB := n0_; have BK101 := n1_; have GW101 := n2_; have GE101 := n3_; clear n0_ n1_ n2_ n3_; clear hb hbox hg; have hcz5_0 : w4.cell? ⟨gb101, 0, none⟩ = some (.int .i64 a0_0) := (blk_cell BK101.out 0).trans rfl; have hcz5_1 : w4.cell? ⟨gb101, 1, none⟩ = some (.int .i64 a0_1) := (blk_cell BK101.out 1).trans rfl; have hcz5_2 : w4.cell? ⟨gb101, 2, none⟩ = some (.int .i64 a0_2) := (blk_cell BK101.out 2).trans rfl; have hcz5_3 : w4.cell? ⟨gb101, 3, none⟩ = some (.int .i64 a0_3) := (blk_cell BK101.out 3).trans rfl; have hcz5_4 : w4.cell? ⟨gb101, 4, none⟩ = some (.slice A0_4 l0_4.length c0_4) := (blk_cell BK101.out 4).trans rfl; have hfz5_0 := blk_frozen BK101.out 0; have hfz5_1 := blk_frozen BK101.out 1; have hfz5_2 := blk_frozen BK101.out 2; have hfz5_3 := blk_frozen BK101.out 3; have hfz5_4 := blk_frozen BK101.out 4))
      go_ret
      exact ⟨by first | rfl | (simp [errW_none, errW_some] <;> rfl) | (simp [*, errW_none, errW_some] <;> rfl), by repeat (first | (with_reducible first | exact HB.out | apply below_alloc | apply pw_below_drewN | apply below_drew1 | refine below_set ?_ GE101.out) | exact HB.out)⟩
    · rw [if_neg c3] at H
      have c3b0 : decide ((l0_4.length : Int) ≤ 256) = false := decide_eq_false c3
      have c3b1 : decide (l0_4.length ≤ 256) = false := decide_eq_false (by omega)
      clear c3
      obtain rfl := Option.some.inj H
      go_enter Try.func7, Try.ntmps7
      go_wp2_with (first | ((with_reducible refine gate_dst (N := 1) rfl ?_); (try (refine gate_guard (by rfl) ?_; dsimp only)); refine box_event ?hg (N := 1) ?hd (cs := #[.int .i64 a0_0, .int .i64 a0_1, .int .i64 a0_2, .int .i64 a0_3, .slice A0_4 l0_4.length c0_4]) (t := 26) ?hr ?_; (case hd => rfl); (case hg => rfl); (case hr => first | (go_simp; done) | (go_simp; rfl)); intro gb101 hg w6 hbox hb; have n0_ := Aside0.mk (below_step (by repeat (first | (with_reducible first | exact HB.out | apply below_alloc | apply pw_below_drewN | apply below_drew1) | exact HB.out)) hb); have n1_ := Aside0.mk (hbox); have n2_ := Aside0.mk ((by rw [hg]; exact (below_size (by repeat (first | (with_reducible first | exact HB.out | apply below_alloc | apply pw_below_drewN | apply below_drew1) | exact HB.out))) : w.heap.size ≤ gb101)); have n3_ := Aside0.mk ((by rw [hg]; exact (below_size (by repeat (first | (with_reducible first | exact HB.out | apply below_alloc | apply pw_below_drewN | apply below_drew1) | exact HB.out))) : w.heap.size ≤ gb101)); clear HB; have HB := n0_; have BK101 := n1_; have GW101 := n2_; have GE101 := n3_; clear n0_ n1_ n2_ n3_; clear hb hbox hg; have hcz7_0 : w6.cell? ⟨gb101, 0, none⟩ = some (.int .i64 a0_0) := (blk_cell BK101.out 0).trans rfl; have hcz7_1 : w6.cell? ⟨gb101, 1, none⟩ = some (.int .i64 a0_1) := (blk_cell BK101.out 1).trans rfl; have hcz7_2 : w6.cell? ⟨gb101, 2, none⟩ = some (.int .i64 a0_2) := (blk_cell BK101.out 2).trans rfl; have hcz7_3 : w6.cell? ⟨gb101, 3, none⟩ = some (.int .i64 a0_3) := (blk_cell BK101.out 3).trans rfl; have hcz7_4 : w6.cell? ⟨gb101, 4, none⟩ = some (.slice A0_4 l0_4.length c0_4) := (blk_cell BK101.out 4).trans rfl; have hfz7_0 := blk_frozen BK101.out 0; have hfz7_1 := blk_frozen BK101.out 1; have hfz7_2 := blk_frozen BK101.out 2; have hfz7_3 := blk_frozen BK101.out 3; have hfz7_4 := blk_frozen BK101.out 4))
      go_ret
      exact ⟨by first | rfl | (simp [errW_none, errW_some] <;> rfl) | (simp [*, errW_none, errW_some] <;> rfl), by repeat (first | (with_reducible first | exact HB.out | apply below_alloc | apply pw_below_drewN | apply below_drew1 | refine below_set ?_ GE101.out) | exact HB.out)⟩
  · rw [if_neg c2] at H
    have c2b0 : decide (40 < (l0_4.length : Int)) = false := decide_eq_false c2
    have c2b1 : decide (40 < l0_4.length) = false := decide_eq_false (by omega)
    clear c2
    obtain rfl := Option.some.inj H
    go_enter Try.func7, Try.ntmps7
    go_wp2_with (first | ((with_reducible refine gate_dst (N := 1) rfl ?_); (try (refine gate_guard (by rfl) ?_; dsimp only)); refine box_event ?hg (N := 1) ?hd (cs := #[.int .i64 a0_0, .int .i64 a0_1, .int .i64 a0_2, .int .i64 a0_3, .slice A0_4 l0_4.length c0_4]) (t := 26) ?hr ?_; (case hd => rfl); (case hg => rfl); (case hr => first | (go_simp; done) | (go_simp; rfl)); intro gb101 hg w8 hbox hb; have n0_ := Aside0.mk (below_step (by repeat (first | (with_reducible first | exact HB.out | apply below_alloc | apply pw_below_drewN | apply below_drew1) | exact HB.out)) hb); have n1_ := Aside0.mk (hbox); have n2_ := Aside0.mk ((by rw [hg]; exact (below_size (by repeat (first | (with_reducible first | exact HB.out | apply below_alloc | apply pw_below_drewN | apply below_drew1) | exact HB.out))) : w.heap.size ≤ gb101)); have n3_ := Aside0.mk ((by rw [hg]; exact (below_size (by repeat (first | (with_reducible first | exact HB.out | apply below_alloc | apply pw_below_drewN | apply below_drew1) | exact HB.out))) : w.heap.size ≤ gb101)); clear HB; have HB := n0_; have BK101 := n1_; have GW101 := n2_; have GE101 := n3_; clear n0_ n1_ n2_ n3_; clear hb hbox hg; have hcz9_0 : w8.cell? ⟨gb101, 0, none⟩ = some (.int .i64 a0_0) := (blk_cell BK101.out 0).trans rfl; have hcz9_1 : w8.cell? ⟨gb101, 1, none⟩ = some (.int .i64 a0_1) := (blk_cell BK101.out 1).trans rfl; have hcz9_2 : w8.cell? ⟨gb101, 2, none⟩ = some (.int .i64 a0_2) := (blk_cell BK101.out 2).trans rfl; have hcz9_3 : w8.cell? ⟨gb101, 3, none⟩ = some (.int .i64 a0_3) := (blk_cell BK101.out 3).trans rfl; have hcz9_4 : w8.cell? ⟨gb101, 4, none⟩ = some (.slice A0_4 l0_4.length c0_4) := (blk_cell BK101.out 4).trans rfl; have hfz9_0 := blk_frozen BK101.out 0; have hfz9_1 := blk_frozen BK101.out 1; have hfz9_2 := blk_frozen BK101.out 2; have hfz9_3 := blk_frozen BK101.out 3; have hfz9_4 := blk_frozen BK101.out 4))
    go_ret
    exact ⟨by first | rfl | (simp [errW_none, errW_some] <;> rfl) | (simp [*, errW_none, errW_some] <;> rfl), by repeat (first | (with_reducible first | exact HB.out | apply below_alloc | apply pw_below_drewN | apply below_drew1 | refine below_set ?_ GE101.out) | exact HB.out)⟩

end Go.Proofs.Ytbmkbokkmmdjdaa.Q
end
section
namespace Go.Proofs.Ytbmkbokkmmdjdaa
open Go.RowKit Go.Proofs.YtbmkbokkmmdjdaaW.PrintWords Go.Proofs.YtbmkbokkmmdjdaaW.PrintLast Go.Proofs.YtbmkbokkmmdjdaaW.PrintMore
open Q Go.Shelf
attribute [local go_sem] Oper.semAt_some wide_depth wide_fn
set_option linter.unusedVariables false
set_option linter.unusedSimpArgs false

theorem below_drawn {w w' : World} (h : Drawn0 w w') : Below w.heap.size w w' := h.below
theorem spanR_any (s : S23) (w : World) : Calls Try.prog 22 #[.agg #[.int .i64 s.f0, .int .i64 s.f1]] w (RetBool (spanOk s 1000000) w) := by
  refine culletref09_span.calls s.f0 s.f1 (spanOk s 1000000) w ?_
  unfold culletref09_span.f spanOk betw
  by_cases h0 : s.f0 ≥ 0
  · rw [if_pos h0]
    by_cases h1 : s.f0 ≤ s.f1
    · rw [if_pos h1]; simp [h1]; omega
    · rw [if_neg h1]; simp [h1]
  · rw [if_neg h0]
    have : ¬ (0 ≤ s.f0) := h0
    simp [this]
theorem weighsR_any (k : Int) (w : World) : Calls Try.prog 46 #[.int .u8 k] w (RetBool (decide (1 ≤ k ∧ k ≤ 5)) w) := by
  refine (culletref09_weighs.calls k (decide (1 ≤ k ∧ k ≤ 5)) w ?_).mono ?_
  · unfold culletref09_weighs.f
    repeat' split
    all_goals first | (subst_vars; rfl) | skip
    rename_i h1 h2 h3 h4
    by_cases h5 : k = 5
    · subst h5; rfl
    · have : ¬ (1 ≤ k ∧ k ≤ 5) := by omega
      simp [h5, this]
  · rintro e w' ⟨rfl, h⟩; exact ⟨rfl, below_drawn h⟩
theorem find_l0 {l : List S36} {kd lot : Int} (hl : l.length ≤ 1000000) : ∀ (n k i : Nat), i + n = l.length → n < k → (∀ j (hj : j < l.length), j < i → isLot kd lot l[j] = false) → culletref09_find.l0 k l kd lot (i : Int) = some (idx (isLot kd lot) l) := by
  intro n
  induction n with
  | zero =>
    intro k i hi hk hn
    obtain ⟨k, rfl⟩ : ∃ k', k = k' + 1 := ⟨k - 1, by omega⟩
    rw [culletref09_find.l0, if_neg (by omega), idx_none (fun j hj => hn j hj (by omega))]
  | succ n ih =>
    intro k i hi hk hn
    obtain ⟨k, rfl⟩ : ∃ k', k = k' + 1 := ⟨k - 1, by omega⟩
    have hlt : i < l.length := by omega
    have hnext : isLot kd lot l[i] = false → culletref09_find.l0 k l kd lot (wrap64 ((i : Int) + 1)) = some (idx (isLot kd lot) l) := fun hf => by
      rw [wrap64_id (by omega) (by omega), show (i : Int) + 1 = ((i + 1 : Nat) : Int) by omega]
      exact ih k (i + 1) (by omega) (by omega) (fun j hj h => by
        by_cases e : j = i
        · subst e; exact hf
        · exact hn j hj (by omega))
    rw [culletref09_find.l0, if_pos (by omega), if_pos (by omega), rdP hlt]
    by_cases h1 : l[i].f1 = kd
    · rw [if_pos h1]
      by_cases h2 : l[i].f3 = lot
      · rw [if_pos h2, idx_at hlt (by unfold isLot; simp [h1, h2]) hn]
      · rw [if_neg h2]; exact hnext (by unfold isLot; simp [h2])
    · rw [if_neg h1]; exact hnext (by unfold isLot; simp [h1])
theorem findR_any (A : Option Addr) (c : Nat) (l : List S36) (kd lot : Int) (w : World) (hr : Kd.C k36 w A l.length l) (hc : l.length ≤ c) (hl : l.length ≤ 1000000) : Calls Try.prog 66 #[.slice A l.length c, .int .u8 kd, .int .i64 lot] w (RetInt (idx (isLot kd lot) l) w) := by
  refine (culletref09_find.calls (l.length + 1) A c l kd lot (idx (isLot kd lot) l) w hr hc ?_).mono ?_
  · unfold culletref09_find.f
    exact find_l0 hl l.length (l.length + 1) 0 (by omega) (by omega) (fun j hj h => absurd h (by omega))
  · rintro e w' ⟨rfl, h⟩; exact ⟨rfl, below_drawn h⟩
theorem period_l0 {l : List S36} {m : Nat} (hm : m ≤ l.length) (hl : l.length ≤ 1000000) : ∀ (n k i : Nat), i + n = m → n < k → culletref09_period.l0 k l (m : Int) (cnt (isKind 6) (l.take i) : Nat) (i : Int) = some ((cnt (isKind 6) (l.take m) : Nat) : Int) := by
  intro n
  induction n with
  | zero =>
    intro k i hi hk
    obtain ⟨k, rfl⟩ : ∃ k', k = k' + 1 := ⟨k - 1, by omega⟩
    obtain rfl : i = m := by omega
    rw [culletref09_period.l0, if_neg (by omega)]
  | succ n ih =>
    intro k i hi hk
    obtain ⟨k, rfl⟩ : ∃ k', k = k' + 1 := ⟨k - 1, by omega⟩
    have hlt : i < l.length := by omega
    have hb : cnt (isKind 6) (l.take i) ≤ i := by unfold cnt; have := List.countP_le_length (p := isKind 6) (l := l.take i); rw [List.length_take] at this; omega
    have := ih k (i + 1) (by omega) (by omega)
    rw [cnt_take hlt] at this
    rw [culletref09_period.l0, if_pos (by omega), if_pos (by omega), if_pos (by omega), rdP hlt]
    rw [wrap64_id (n := (i : Int) + 1) (by omega) (by omega), show (i : Int) + 1 = ((i + 1 : Nat) : Int) by omega]
    by_cases h1 : l[i].f1 = 6
    · rw [if_pos h1, wrap64_id (by omega) (by omega)]
      rw [if_pos (by unfold isKind; simp [h1])] at this
      rw [← this]; congr 1
    · rw [if_neg h1]
      rw [if_neg (by unfold isKind; simp [h1])] at this
      exact this
theorem periodR_any (A : Option Addr) (c : Nat) (l : List S36) (m : Nat) (w : World) (hr : Kd.C k36 w A l.length l) (hc : l.length ≤ c) (hm : m ≤ l.length) (hl : l.length ≤ 1000000) : Calls Try.prog 67 #[.slice A l.length c, .int .i64 m] w (RetInt ((cnt (isKind 6) (l.take m) : Nat) : Int) w) := by
  refine (culletref09_period.calls (l.length + 1) A c l m ((cnt (isKind 6) (l.take m) : Nat) : Int) w hr hc ?_).mono ?_
  · unfold culletref09_period.f
    have := period_l0 hm hl m (l.length + 1) 0 (by omega) (by omega)
    simpa [cnt] using this
  · rintro e w' ⟨rfl, h⟩; exact ⟨rfl, below_drawn h⟩
theorem heaps_l0 {l : List S36} (hl : l.length ≤ 1000000) : ∀ (n k i : Nat), i + n = l.length → n < k → culletref09_heaps.l0 k l (cnt isHeap (l.take i) : Nat) (i : Int) = some ((cnt isHeap l : Nat) : Int) := by
  intro n
  induction n with
  | zero =>
    intro k i hi hk
    obtain ⟨k, rfl⟩ : ∃ k', k = k' + 1 := ⟨k - 1, by omega⟩
    obtain rfl : i = l.length := by omega
    rw [culletref09_heaps.l0, if_neg (by omega), List.take_length]
  | succ n ih =>
    intro k i hi hk
    obtain ⟨k, rfl⟩ : ∃ k', k = k' + 1 := ⟨k - 1, by omega⟩
    have hlt : i < l.length := by omega
    have hb : cnt isHeap (l.take i) ≤ i := by unfold cnt; have := List.countP_le_length (p := isHeap) (l := l.take i); rw [List.length_take] at this; omega
    have := ih k (i + 1) (by omega) (by omega)
    rw [cnt_take hlt] at this
    rw [culletref09_heaps.l0, if_pos (by omega), if_pos (by omega), rdP hlt]
    rw [wrap64_id (n := (i : Int) + 1) (by omega) (by omega), show (i : Int) + 1 = ((i + 1 : Nat) : Int) by omega]
    by_cases h1 : l[i].f1 = 1
    · rw [if_pos h1, wrap64_id (by omega) (by omega)]
      rw [if_pos (by unfold isHeap; simp [h1])] at this
      rw [← this]; congr 1
    · rw [if_neg h1]
      by_cases h2 : l[i].f1 = 5
      · rw [if_pos h2, wrap64_id (by omega) (by omega)]
        rw [if_pos (by unfold isHeap; simp [h2])] at this
        rw [← this]; congr 1
      · rw [if_neg h2]
        rw [if_neg (by unfold isHeap; simp [h1, h2])] at this
        exact this
theorem heapsR_any (A : Option Addr) (c : Nat) (l : List S36) (w : World) (hr : Kd.C k36 w A l.length l) (hc : l.length ≤ c) (hl : l.length ≤ 1000000) : Calls Try.prog 48 #[.slice A l.length c] w (RetInt ((cnt isHeap l : Nat) : Int) w) := by
  refine (culletref09_heaps.calls (l.length + 1) A c l ((cnt isHeap l : Nat) : Int) w hr hc ?_).mono ?_
  · unfold culletref09_heaps.f
    have := heaps_l0 hl l.length (l.length + 1) 0 (by omega) (by omega)
    simpa [cnt] using this
  · rintro e w' ⟨rfl, h⟩; exact ⟨rfl, below_drawn h⟩
def partsErr (x : S36) : Int := if x.f5.f0 < 0 ∨ x.f5.f1 < x.f5.f0 ∨ x.f6.f0 < 0 ∨ x.f6.f1 < x.f6.f0 then 1 else if 1000 < x.f5.f1 ∨ 1000 < x.f6.f1 ∨ 1000 < wrap64 (x.f5.f1 + x.f6.f1) then 12 else 0
theorem partsR_any (x : S36) (w : World) : Calls Try.prog 47 #[.agg #[.int .i64 x.f0, .int .u8 x.f1, .int .i64 x.f2, .int .i64 x.f3, .int .i64 x.f4.f0, .int .i64 x.f4.f1, .int .i64 x.f5.f0, .int .i64 x.f5.f1, .int .i64 x.f6.f0, .int .i64 x.f6.f1, .int .i64 x.f7]] w (RetInt (partsErr x) w) := by
  refine culletref09_parts.calls 1 x.f0 x.f1 x.f2 x.f3 x.f4.f0 x.f4.f1 x.f5.f0 x.f5.f1 x.f6.f0 x.f6.f1 x.f7 (partsErr x) w ?_
  unfold culletref09_parts.f
  simp only [culletref09_parts.j0]
  have hj : (if x.f5.f1 > 1000 then some 12 else if x.f6.f1 > 1000 then some 12 else if wrap64 (x.f5.f1 + x.f6.f1) > 1000 then some 12 else some (0 : Int)) = some (if 1000 < x.f5.f1 ∨ 1000 < x.f6.f1 ∨ 1000 < wrap64 (x.f5.f1 + x.f6.f1) then 12 else 0) := by
    by_cases h1 : x.f5.f1 > 1000
    · rw [if_pos h1, if_pos (.inl h1)]
    · rw [if_neg h1]
      by_cases h2 : x.f6.f1 > 1000
      · rw [if_pos h2, if_pos (.inr (.inl h2))]
      · rw [if_neg h2]
        by_cases h3 : wrap64 (x.f5.f1 + x.f6.f1) > 1000
        · rw [if_pos h3, if_pos (.inr (.inr h3))]
        · rw [if_neg h3, if_neg (by rintro (h | h | h) <;> first | exact h1 h | exact h2 h | exact h3 h)]
  unfold partsErr
  by_cases h1 : x.f5.f0 < 0
  · simp [h1]
  · rw [if_neg h1]
    by_cases h2 : x.f5.f0 > x.f5.f1
    · have h2' : x.f5.f1 < x.f5.f0 := h2
      simp [h2']
    · rw [if_neg h2]
      by_cases h3 : x.f6.f0 < 0
      · simp [h3]
      · rw [if_neg h3]
        by_cases h4 : x.f6.f0 > x.f6.f1
        · have h4' : x.f6.f1 < x.f6.f0 := h4
          simp [h4']
        · rw [if_neg (by simp; omega), hj, if_neg (c := x.f5.f0 < 0 ∨ x.f5.f1 < x.f5.f0 ∨ x.f6.f0 < 0 ∨ x.f6.f1 < x.f6.f0) (by omega)]
def thickB (l : List S36) : Bool := (decide (40 < l.length) && decide (l.length ≤ 256)) || decide (300 < l.length)
theorem thick_any (ho fi : S23) (A : Option Addr) (c : Nat) (l : List S36) (w : World) (hr : Kd.C k36 w A l.length l) (hc : l.length ≤ c) : Calls Try.prog 7 #[.agg #[.int .i64 ho.f0, .int .i64 ho.f1, .int .i64 fi.f0, .int .i64 fi.f1, .slice A l.length c]] w (RetBool (thickB l) w) := by
  refine culletlaw09_thick.calls ho.f0 ho.f1 fi.f0 fi.f1 A c l (thickB l) w hr hc ?_
  unfold culletlaw09_thick.f thickB
  by_cases h1 : (l.length : Int) > 40
  · rw [if_pos h1]
    by_cases h2 : (l.length : Int) ≤ 256
    · rw [if_pos h2]
      have a1 : 40 < l.length := by omega
      have a2 : l.length ≤ 256 := by omega
      simp [a1, a2]
    · rw [if_neg h2]
      have a2 : ¬ l.length ≤ 256 := by omega
      have a3 : ((l.length : Int) > 300) ↔ 300 < l.length := by omega
      simp [a2, a3]
  · rw [if_neg h1]
    have a1 : ¬ 40 < l.length := by omega
    have a3 : ((l.length : Int) > 300) ↔ 300 < l.length := by omega
    simp [a1, a3]
end Go.Proofs.Ytbmkbokkmmdjdaa
end
section
namespace Go.Proofs.Ytbmkbokkmmdjdaa
open Go.RowKit Go.Proofs.YtbmkbokkmmdjdaaW.PrintWords Go.Proofs.YtbmkbokkmmdjdaaW.PrintLast Go.Proofs.YtbmkbokkmmdjdaaW.PrintMore
open Q Go.Shelf
attribute [local go_sem] Oper.semAt_some wide_depth wide_fn
set_option linter.unusedVariables false
set_option linter.unusedSimpArgs false

def lotErr (x : S36) (l : List S36) : Int := if x.f1 = 4 then packErr x l else if x.f1 = 7 then claimErr x l else thereErr x.f3 l
theorem closed_cnt {lot : Int} {l : List S36} {a : Nat} (h : idx (isLot 4 lot) l = (a : Int)) : closedB lot l = decide (cnt (isKind 6) (l.take a) ≠ cnt (isKind 6) l) := by
  unfold closedB
  rw [h, show decide ((0 : Int) ≤ (a : Int)) = true from decide_eq_true (by omega), Bool.true_and]
  have e : cnt (isKind 6) l = cnt (isKind 6) (l.take a) + cnt (isKind 6) (l.drop a) := by
    unfold cnt
    rw [← List.countP_append, List.take_append_drop]
  have h2 := @cnt_any (isKind 6) (l.drop a)
  rw [show (a : Int).toNat = a from Int.toNat_natCast a, ← h2, e]
  by_cases h0 : 0 < cnt (isKind 6) (l.drop a)
  · rw [decide_eq_true h0, decide_eq_true (by omega)]
  · rw [decide_eq_false h0, decide_eq_false (by omega)]
set_option maxRecDepth 100000 in
set_option maxHeartbeats 4000000 in
theorem lotR_any (x : S36) (A : Option Addr) (c : Nat) (l : List S36) (w : World) (hr : Kd.C k36 w A l.length l) (hc : l.length ≤ c) (hl : l.length ≤ 1000000) (hk : x.f1 = 4 ∨ x.f1 = 7 ∨ x.f1 = 8) :
    Calls Try.prog 49 #[.slice A l.length c, .agg #[.int .i64 x.f0, .int .u8 x.f1, .int .i64 x.f2, .int .i64 x.f3, .int .i64 x.f4.f0, .int .i64 x.f4.f1, .int .i64 x.f5.f0, .int .i64 x.f5.f1, .int .i64 x.f6.f0, .int .i64 x.f6.f1, .int .i64 x.f7]] w (RetInt (lotErr x l) w) := by
  have hu := Try.underlying36
  have hbel := (Below.refl w.heap.size w).alloc (Nat.le_refl _) (.cells #[.int .i64 x.f0, .int .u8 x.f1, .int .i64 x.f2, .int .i64 x.f3, .int .i64 x.f4.f0, .int .i64 x.f4.f1, .int .i64 x.f5.f0, .int .i64 x.f5.f1, .int .i64 x.f6.f0, .int .i64 x.f6.f1, .int .i64 x.f7] 36)
  have e0 := World.alloc_heap_new w (.cells #[.int .i64 x.f0, .int .u8 x.f1, .int .i64 x.f2, .int .i64 x.f3, .int .i64 x.f4.f0, .int .i64 x.f4.f1, .int .i64 x.f5.f0, .int .i64 x.f5.f1, .int .i64 x.f6.f0, .int .i64 x.f6.f1, .int .i64 x.f7] 36)
  have HR := hid hr
  have HSP := hid (rfl : lotErr x l = lotErr x l)
  have HQ : ∀ a : Nat, idx (isLot 4 x.f3) l = (a : Int) → closedB x.f3 l = decide (cnt (isKind 6) (l.take a) ≠ cnt (isKind 6) l) := fun a h => closed_cnt h
  have HQ := hid HQ
  have hlf : (l.take l.length) = l := List.take_length
  go_enter Try.func49, Try.ntmps49
  go_upto_region 1 with fail
  have H2 := hid (And.intro hbel e0)
  clear hbel e0 hr
  generalize w.alloc (.cells #[.int .i64 x.f0, .int .u8 x.f1, .int .i64 x.f2, .int .i64 x.f3, .int .i64 x.f4.f0, .int .i64 x.f4.f1, .int .i64 x.f5.f0, .int .i64 x.f5.f1, .int .i64 x.f6.f0, .int .i64 x.f6.f1, .int .i64 x.f7] 36) = W1 at *
  have y1 := blkCell H2.out.2 1
  have y3 := blkCell H2.out.2 3
  have y10 := blkCell H2.out.2 10
  simp at y1 y3 y10
  go_wp2_with fail
  refine (findR_any A c l 4 x.f3 _ (Kd.C_below HR.out H2.out.1) hc hl).mono ?_
  rintro e W2 ⟨rfl, hb⟩
  have H3 := hid (And.intro (H2.out.1.trans (hb.mono H2.out.1.size)) (heap_grow H2.out.2 hb))
  clear hb H2 y1 y3 y10
  have H2 := hid H3.out
  clear H3
  have y1 := blkCell H2.out.2 1
  have y3 := blkCell H2.out.2 3
  have y10 := blkCell H2.out.2 10
  simp at y1 y3 y10
  have n4 : decide (0 ≤ idx (isLot 4 x.f3) l) = l.any (isLot 4 x.f3) := idx_nonneg
  have m4 : decide (idx (isLot 4 x.f3) l < 0) = !l.any (isLot 4 x.f3) := by rw [← n4]; by_cases h : 0 ≤ idx (isLot 4 x.f3) l <;> simp [h] <;> omega
  have i4 := @idx_lt (isLot 4 x.f3) l
  generalize idx (isLot 4 x.f3) l = z4 at *
  by_cases h4 : x.f1 = 4
  · have f4 : (x.f1 == 4) = true := by simpa using h4
    by_cases a1 : x.f3 < 0
    · have d1 : decide (x.f3 < 0) = true := decide_eq_true a1
      have HS := hid (show lotErr x l = 1 by unfold lotErr packErr betw; rw [if_pos h4, if_neg (by simp; omega)])
      clear h4 a1
      clear HSP
      go_wp2
      go_ret
      exact ⟨ret_int HS.out.symm, H2.out.1⟩
    · have d1 : decide (x.f3 < 0) = false := decide_eq_false a1
      by_cases a2 : 1000000 < x.f3
      · have d2 : decide (1000000 < x.f3) = true := decide_eq_true a2
        have HS := hid (show lotErr x l = 1 by unfold lotErr packErr betw; rw [if_pos h4, if_neg (by simp; omega)])
        clear h4 a1 a2
        clear HSP
        go_wp2
        go_ret
        exact ⟨ret_int HS.out.symm, H2.out.1⟩
      · have d2 : decide (1000000 < x.f3) = false := decide_eq_false a2
        cases b4 : l.any (isLot 4 x.f3) with
        | true =>
          rw [b4] at n4 m4
          have HS := hid (show lotErr x l = 6 by unfold lotErr packErr betw; rw [if_pos h4, if_pos (by simp; omega), if_pos b4])
          clear h4 a1 a2 b4
          clear HSP
          go_wp2
          go_ret
          exact ⟨ret_int HS.out.symm, H2.out.1⟩
        | false =>
          rw [b4] at n4 m4
          have HS := hid (show lotErr x l = 0 by unfold lotErr packErr betw; rw [if_pos h4, if_pos (by simp; omega), if_neg (by rw [b4]; decide)])
          clear h4 a1 a2 b4
          clear HSP
          go_wp2
          go_ret
          exact ⟨ret_int HS.out.symm, H2.out.1⟩
  · have f4 : (x.f1 == 4) = false := by simpa using h4
    have HS4 := hid (show lotErr x l = if x.f1 = 7 then claimErr x l else thereErr x.f3 l by unfold lotErr; rw [if_neg h4])
    cases b4 : l.any (isLot 4 x.f3) with
    | false =>
      rw [b4] at n4 m4
      have HS := hid (show lotErr x l = 7 by rw [HS4.out]; unfold claimErr; have e : thereErr x.f3 l = 7 := (by unfold thereErr; rw [if_neg (by rw [b4]; decide)]); rw [e, if_neg (show ¬ (7 : Int) = 0 by decide), ite_self])
      clear h4 b4
      simp only [Bool.not_false] at m4
      clear HSP
      go_wp2
      go_ret
      exact ⟨ret_int HS.out.symm, H2.out.1⟩
    | true =>
      rw [b4] at n4 m4
      simp only [Bool.not_true] at m4
      have HB4 := hid b4
      clear b4
      go_wp2_with fail
      refine (findR_any A c l 8 x.f3 _ (Kd.C_below HR.out H2.out.1) hc hl).mono ?_
      rintro e W3 ⟨rfl, hb⟩
      have H3 := hid (And.intro (H2.out.1.trans (hb.mono H2.out.1.size)) (heap_grow H2.out.2 hb))
      clear hb H2 y1 y3 y10
      have H2 := hid H3.out
      clear H3
      have y1 := blkCell H2.out.2 1
      have y3 := blkCell H2.out.2 3
      have y10 := blkCell H2.out.2 10
      simp at y1 y3 y10
      have n8 : decide (0 ≤ idx (isLot 8 x.f3) l) = l.any (isLot 8 x.f3) := idx_nonneg
      have m8 : decide (idx (isLot 8 x.f3) l < 0) = !l.any (isLot 8 x.f3) := by rw [← n8]; by_cases h : 0 ≤ idx (isLot 8 x.f3) l <;> simp [h] <;> omega
      have i8 := @idx_lt (isLot 8 x.f3) l
      generalize idx (isLot 8 x.f3) l = z8 at *
      cases b8 : l.any (isLot 8 x.f3) with
      | true =>
        rw [b8] at n8 m8
        have HS := hid (show lotErr x l = 10 by rw [HS4.out]; unfold claimErr; have e : thereErr x.f3 l = 10 := (by unfold thereErr; rw [if_pos HB4.out, if_pos b8]); rw [e, if_neg (show ¬ (10 : Int) = 0 by decide), ite_self])
        clear h4 b8
        clear HSP
        go_wp2
        go_ret
        exact ⟨ret_int HS.out.symm, H2.out.1⟩
      | false =>
        rw [b8] at n8 m8
        have HT := hid (show thereErr x.f3 l = 0 by unfold thereErr; rw [if_pos HB4.out, if_neg (by rw [b8]; decide)])
        clear b8
        by_cases h8 : x.f1 = 8
        · have f8 : (x.f1 == 8) = true := by simpa using h8
          have HS := hid (show lotErr x l = 0 by rw [HS4.out, if_neg (by omega), HT.out])
          clear h4 h8
          clear HSP
          go_wp2
          go_ret
          exact ⟨ret_int HS.out.symm, H2.out.1⟩
        · have f8 : (x.f1 == 8) = false := by simpa using h8
          have h7 : x.f1 = 7 := by omega
          have HS7 := hid (show lotErr x l = if betw x.f7 1 1000 = true then (if l.any (isLot 7 x.f3) = true then 6 else if closedB x.f3 l = true then 0 else 8) else 1 by rw [HS4.out, if_pos h7]; unfold claimErr; rw [if_pos HT.out])
          clear h4 h8 h7
          by_cases a1 : x.f7 < 1
          · have d1 : decide (x.f7 < 1) = true := decide_eq_true a1
            have HS := hid (show lotErr x l = 1 by rw [HS7.out, if_neg (by unfold betw; simp; omega)])
            clear a1
            clear HSP
            go_wp2
            go_ret
            exact ⟨ret_int HS.out.symm, H2.out.1⟩
          · have d1 : decide (x.f7 < 1) = false := decide_eq_false a1
            by_cases a2 : 1000 < x.f7
            · have d2 : decide (1000 < x.f7) = true := decide_eq_true a2
              have HS := hid (show lotErr x l = 1 by rw [HS7.out, if_neg (by unfold betw; simp; omega)])
              clear a1 a2
              clear HSP
              go_wp2
              go_ret
              exact ⟨ret_int HS.out.symm, H2.out.1⟩
            · have d2 : decide (1000 < x.f7) = false := decide_eq_false a2
              have HS8 := hid (show lotErr x l = if l.any (isLot 7 x.f3) = true then 6 else if closedB x.f3 l = true then 0 else 8 by rw [HS7.out, if_pos (by unfold betw; simp; omega)])
              clear a1 a2
              go_wp2_with fail
              refine (findR_any A c l 7 x.f3 _ (Kd.C_below HR.out H2.out.1) hc hl).mono ?_
              rintro e W4 ⟨rfl, hb⟩
              have H3 := hid (And.intro (H2.out.1.trans (hb.mono H2.out.1.size)) (heap_grow H2.out.2 hb))
              clear hb H2 y1 y3 y10
              have H2 := hid H3.out
              clear H3
              have y1 := blkCell H2.out.2 1
              have y3 := blkCell H2.out.2 3
              have y10 := blkCell H2.out.2 10
              simp at y1 y3 y10
              have n7 : decide (0 ≤ idx (isLot 7 x.f3) l) = l.any (isLot 7 x.f3) := idx_nonneg
              have m7 : decide (idx (isLot 7 x.f3) l < 0) = !l.any (isLot 7 x.f3) := by rw [← n7]; by_cases h : 0 ≤ idx (isLot 7 x.f3) l <;> simp [h] <;> omega
              have i7 := @idx_lt (isLot 7 x.f3) l
              generalize idx (isLot 7 x.f3) l = z7 at *
              cases b7 : l.any (isLot 7 x.f3) with
              | true =>
                rw [b7] at n7 m7
                have HS := hid (show lotErr x l = 6 by rw [HS8.out, if_pos b7])
                clear b7
                clear HSP
                go_wp2
                go_ret
                exact ⟨ret_int HS.out.symm, H2.out.1⟩
              | false =>
                rw [b7] at n7 m7
                obtain ⟨hz1, hz2⟩ := i4 (by simpa using n4)
                obtain ⟨a, rfl⟩ : ∃ a : Nat, z4 = a := ⟨z4.toNat, hz2⟩
                simp only [Int.toNat_natCast] at hz1
                have HCB := hid (HQ.out a rfl)
                have HS9 := hid (show lotErr x l = if closedB x.f3 l = true then 0 else 8 by rw [HS8.out, if_neg (by rw [b7]; decide)])
                clear b7 i4 i7 i8 hz2
                go_wp2_with fail
                refine (periodR_any A c l a _ (Kd.C_below HR.out H2.out.1) hc (by omega) hl).mono ?_
                rintro e W5 ⟨rfl, hb⟩
                have H3 := hid (H2.out.1.trans (hb.mono H2.out.1.size))
                clear hb H2 y1 y3 y10
                go_wp2_with fail
                refine (periodR_any A c l l.length _ (Kd.C_below HR.out H3.out) hc (Nat.le_refl _) hl).mono ?_
                rintro e W6 ⟨rfl, hb⟩
                rw [hlf]
                have H4 := hid (H3.out.trans (hb.mono H3.out.size))
                clear hb H3 hlf
                have HCB2 := hid (show closedB x.f3 l = !(((cnt (isKind 6) (l.take a) : Nat) : Int) == ((cnt (isKind 6) l : Nat) : Int)) by
                  rw [HCB.out]
                  by_cases h : cnt (isKind 6) (l.take a) = cnt (isKind 6) l
                  · rw [h]; simp
                  · have h2 : ¬ ((cnt (isKind 6) (l.take a) : Nat) : Int) = ((cnt (isKind 6) l : Nat) : Int) := by omega
                    simp [h]; exact h2)
                clear HCB
                generalize ((cnt (isKind 6) (l.take a) : Nat) : Int) = q1 at *
                generalize ((cnt (isKind 6) l : Nat) : Int) = q2 at *
                cases hq : q1 == q2 with
                | true =>
                  have HS := hid (show lotErr x l = 8 by rw [HS9.out, if_neg (by rw [HCB2.out, hq]; decide)])
                  clear HSP
                  go_wp2
                  go_ret
                  exact ⟨ret_int HS.out.symm, H4.out⟩
                | false =>
                  have HS := hid (show lotErr x l = 0 by rw [HS9.out, if_pos (by rw [HCB2.out, hq]; rfl)])
                  clear HSP
                  go_wp2
                  go_ret
                  exact ⟨ret_int HS.out.symm, H4.out⟩
end Go.Proofs.Ytbmkbokkmmdjdaa
end
