-- D7 D8 D9 (wip/pack9.py)
import Derived.Test.YtbmkbokkmmdjdaaV26
import Derived.Test.YtbmkbokkmmdjdaaV27
section
namespace Go.Proofs.Ytbmkbokkmmdjdaa
open Go.RowKit Go.Proofs.YtbmkbokkmmdjdaaW.PrintWords Go.Proofs.YtbmkbokkmmdjdaaW.PrintLast Go.Proofs.YtbmkbokkmmdjdaaW.PrintMore
open Q Go.Shelf
attribute [local go_sem] Oper.semAt_some wide_depth wide_fn
set_option linter.unusedVariables false
set_option linter.unusedSimpArgs false
theorem plusR_any (a b : S23) (w : World) : Calls Try.prog 65 #[.agg #[.int .i64 a.f0, .int .i64 a.f1], .agg #[.int .i64 b.f0, .int .i64 b.f1]] w (RetSpan (plusS a b) w) := by
  have hu := Try.underlying23
  have HB := Below.refl w.heap.size w
  go_enter Try.func65, Try.ntmps65
  go_wp2
  refine bodyPost_ret (v := .agg #[.int .i64 (wrap64 (a.f0 + b.f0)), .int .i64 (wrap64 (a.f1 + b.f1))]) (by simp [results, Try.results65, go_sem, wrap_i]) rfl ⟨rfl, ?_⟩
  exact (((HB.alloc (Nat.le_refl _) _).alloc (by simp) _).alloc (by simp; omega) _)

set_option maxRecDepth 100000 in
set_option maxHeartbeats 4000000 in
set_option pp.deepTerms true in
set_option pp.maxSteps 1000000 in
theorem chargeR_any (h : S60) (k : S23) (w : World) : Calls Try.prog 64 #[.agg #[.int .i64 h.f0.f0, .int .i64 h.f0.f1, .int .i64 h.f1.f0, .int .i64 h.f1.f1, .int .i64 h.f2.f0, .int .i64 h.f2.f1], .agg #[.int .i64 k.f0, .int .i64 k.f1]] w fun e w' => e = .returned (.tuple #[.agg #[.int .i64 (glassS k h).f0, .int .i64 (glassS k h).f1], .agg #[.int .i64 (timesS k h.f1).f0, .int .i64 (timesS k h.f1).f1], .agg #[.int .i64 (timesS k h.f2).f0, .int .i64 (timesS k h.f2).f1]]) ∧ Below w.heap.size w w' := by
  have hu := Try.underlying23
  have hu1 := Try.underlying60
  have hbel := (((((Below.refl w.heap.size w).alloc (Nat.le_refl _) (.cells #[.int .i64 h.f0.f0, .int .i64 h.f0.f1, .int .i64 h.f1.f0, .int .i64 h.f1.f1, .int .i64 h.f2.f0, .int .i64 h.f2.f1] 60)).alloc (by simp) (.cells #[.int .i64 k.f0, .int .i64 k.f1] 23)).alloc (by simp; omega) (.cells #[.int .i64 0, .int .i64 0] 23)).alloc (by simp; omega) (.cells #[.int .i64 0, .int .i64 0] 23)).alloc (by simp; omega) (.cells #[.int .i64 0, .int .i64 0] 23)
  have e0 := alloc_old (o' := (.cells #[.int .i64 0, .int .i64 0] 23)) (alloc_old (o' := (.cells #[.int .i64 0, .int .i64 0] 23)) (alloc_old (o' := (.cells #[.int .i64 0, .int .i64 0] 23)) (alloc_old (o' := (.cells #[.int .i64 k.f0, .int .i64 k.f1] 23)) (World.alloc_heap_new w (.cells #[.int .i64 h.f0.f0, .int .i64 h.f0.f1, .int .i64 h.f1.f0, .int .i64 h.f1.f1, .int .i64 h.f2.f0, .int .i64 h.f2.f1] 60)))))
  have e1 := alloc_old (o' := (.cells #[.int .i64 0, .int .i64 0] 23)) (alloc_old (o' := (.cells #[.int .i64 0, .int .i64 0] 23)) (alloc_old (o' := (.cells #[.int .i64 0, .int .i64 0] 23)) (World.alloc_heap_new (w.alloc (.cells #[.int .i64 h.f0.f0, .int .i64 h.f0.f1, .int .i64 h.f1.f0, .int .i64 h.f1.f1, .int .i64 h.f2.f0, .int .i64 h.f2.f1] 60)) (.cells #[.int .i64 k.f0, .int .i64 k.f1] 23))))
  have e2 := alloc_old (o' := (.cells #[.int .i64 0, .int .i64 0] 23)) (alloc_old (o' := (.cells #[.int .i64 0, .int .i64 0] 23)) (World.alloc_heap_new ((w.alloc (.cells #[.int .i64 h.f0.f0, .int .i64 h.f0.f1, .int .i64 h.f1.f0, .int .i64 h.f1.f1, .int .i64 h.f2.f0, .int .i64 h.f2.f1] 60)).alloc (.cells #[.int .i64 k.f0, .int .i64 k.f1] 23)) (.cells #[.int .i64 0, .int .i64 0] 23)))
  have e3 := alloc_old (o' := (.cells #[.int .i64 0, .int .i64 0] 23)) (World.alloc_heap_new (((w.alloc (.cells #[.int .i64 h.f0.f0, .int .i64 h.f0.f1, .int .i64 h.f1.f0, .int .i64 h.f1.f1, .int .i64 h.f2.f0, .int .i64 h.f2.f1] 60)).alloc (.cells #[.int .i64 k.f0, .int .i64 k.f1] 23)).alloc (.cells #[.int .i64 0, .int .i64 0] 23)) (.cells #[.int .i64 0, .int .i64 0] 23))
  have e4 := World.alloc_heap_new ((((w.alloc (.cells #[.int .i64 h.f0.f0, .int .i64 h.f0.f1, .int .i64 h.f1.f0, .int .i64 h.f1.f1, .int .i64 h.f2.f0, .int .i64 h.f2.f1] 60)).alloc (.cells #[.int .i64 k.f0, .int .i64 k.f1] 23)).alloc (.cells #[.int .i64 0, .int .i64 0] 23)).alloc (.cells #[.int .i64 0, .int .i64 0] 23)) (.cells #[.int .i64 0, .int .i64 0] 23)
  have hsz : (((((w.alloc (.cells #[.int .i64 h.f0.f0, .int .i64 h.f0.f1, .int .i64 h.f1.f0, .int .i64 h.f1.f1, .int .i64 h.f2.f0, .int .i64 h.f2.f1] 60)).alloc (.cells #[.int .i64 k.f0, .int .i64 k.f1] 23)).alloc (.cells #[.int .i64 0, .int .i64 0] 23)).alloc (.cells #[.int .i64 0, .int .i64 0] 23)).alloc (.cells #[.int .i64 0, .int .i64 0] 23)).heap.size = w.heap.size + 1 + 1 + 1 + 1 + 1 := by simp
  simp only [World.size_alloc] at e1 e2 e3 e4
  go_enter Try.func64, Try.ntmps64
  go_upto_region 1 with fail
  generalize (((((w.alloc (.cells #[.int .i64 h.f0.f0, .int .i64 h.f0.f1, .int .i64 h.f1.f0, .int .i64 h.f1.f1, .int .i64 h.f2.f0, .int .i64 h.f2.f1] 60)).alloc (.cells #[.int .i64 k.f0, .int .i64 k.f1] 23)).alloc (.cells #[.int .i64 0, .int .i64 0] 23)).alloc (.cells #[.int .i64 0, .int .i64 0] 23)).alloc (.cells #[.int .i64 0, .int .i64 0] 23)) = W5 at *
  have y0 := blkCell e0 0
  have y1 := blkCell e0 1
  have y2 := blkCell e0 2
  have y3 := blkCell e0 3
  have y4 := blkCell e0 4
  have y5 := blkCell e0 5
  have z0 := blkCell e1 0
  have z1 := blkCell e1 1
  simp at y0 y1 y2 y3 y4 y5 z0 z1
  have H0 := hid (And.intro hbel (And.intro e2 (And.intro e3 e4)))
  clear e0 e1 e2 e3 e4 hbel
  go_upto_region 4 with fail
  have hb8 := ((H0.out.1.alloc H0.out.1.size (.cells #[.int .i64 (wrap64 (k.f0 * wrap64 (1000 - h.f2.f1))), .int .i64 (wrap64 (k.f1 * wrap64 (1000 - h.f2.f0)))] 23)).alloc (by simp; omega) (.cells #[.int .i64 (wrap64 (k.f0 * h.f1.f0)), .int .i64 (wrap64 (k.f1 * h.f1.f1))] 23)).alloc (by simp; omega) (.cells #[.int .i64 (wrap64 (k.f0 * h.f2.f0)), .int .i64 (wrap64 (k.f1 * h.f2.f1))] 23)
  have e5 := alloc_old (o' := .cells #[.int .i64 (wrap64 (k.f0 * h.f2.f0)), .int .i64 (wrap64 (k.f1 * h.f2.f1))] 23) (alloc_old (o' := .cells #[.int .i64 (wrap64 (k.f0 * h.f1.f0)), .int .i64 (wrap64 (k.f1 * h.f1.f1))] 23) (World.alloc_heap_new W5 (.cells #[.int .i64 (wrap64 (k.f0 * wrap64 (1000 - h.f2.f1))), .int .i64 (wrap64 (k.f1 * wrap64 (1000 - h.f2.f0)))] 23)))
  have e6 := alloc_old (o' := .cells #[.int .i64 (wrap64 (k.f0 * h.f2.f0)), .int .i64 (wrap64 (k.f1 * h.f2.f1))] 23) (World.alloc_heap_new (W5.alloc (.cells #[.int .i64 (wrap64 (k.f0 * wrap64 (1000 - h.f2.f1))), .int .i64 (wrap64 (k.f1 * wrap64 (1000 - h.f2.f0)))] 23)) (.cells #[.int .i64 (wrap64 (k.f0 * h.f1.f0)), .int .i64 (wrap64 (k.f1 * h.f1.f1))] 23))
  have e7 := World.alloc_heap_new ((W5.alloc (.cells #[.int .i64 (wrap64 (k.f0 * wrap64 (1000 - h.f2.f1))), .int .i64 (wrap64 (k.f1 * wrap64 (1000 - h.f2.f0)))] 23)).alloc (.cells #[.int .i64 (wrap64 (k.f0 * h.f1.f0)), .int .i64 (wrap64 (k.f1 * h.f1.f1))] 23)) (.cells #[.int .i64 (wrap64 (k.f0 * h.f2.f0)), .int .i64 (wrap64 (k.f1 * h.f2.f1))] 23)
  have k2 := alloc_old (o' := .cells #[.int .i64 (wrap64 (k.f0 * h.f2.f0)), .int .i64 (wrap64 (k.f1 * h.f2.f1))] 23) (alloc_old (o' := .cells #[.int .i64 (wrap64 (k.f0 * h.f1.f0)), .int .i64 (wrap64 (k.f1 * h.f1.f1))] 23) (alloc_old (o' := .cells #[.int .i64 (wrap64 (k.f0 * wrap64 (1000 - h.f2.f1))), .int .i64 (wrap64 (k.f1 * wrap64 (1000 - h.f2.f0)))] 23) H0.out.2.1))
  have k3 := alloc_old (o' := .cells #[.int .i64 (wrap64 (k.f0 * h.f2.f0)), .int .i64 (wrap64 (k.f1 * h.f2.f1))] 23) (alloc_old (o' := .cells #[.int .i64 (wrap64 (k.f0 * h.f1.f0)), .int .i64 (wrap64 (k.f1 * h.f1.f1))] 23) (alloc_old (o' := .cells #[.int .i64 (wrap64 (k.f0 * wrap64 (1000 - h.f2.f1))), .int .i64 (wrap64 (k.f1 * wrap64 (1000 - h.f2.f0)))] 23) H0.out.2.2.1))
  have k4 := alloc_old (o' := .cells #[.int .i64 (wrap64 (k.f0 * h.f2.f0)), .int .i64 (wrap64 (k.f1 * h.f2.f1))] 23) (alloc_old (o' := .cells #[.int .i64 (wrap64 (k.f0 * h.f1.f0)), .int .i64 (wrap64 (k.f1 * h.f1.f1))] 23) (alloc_old (o' := .cells #[.int .i64 (wrap64 (k.f0 * wrap64 (1000 - h.f2.f1))), .int .i64 (wrap64 (k.f1 * wrap64 (1000 - h.f2.f0)))] 23) H0.out.2.2.2))
  simp only [World.size_alloc, hsz] at e5 e6 e7
  have H0' := hid (And.intro hb8 (And.intro k2 (And.intro k3 k4)))
  clear H0 hb8 k2 k3 k4 y0 y1 y2 y3 y4 y5 z0 z1 hsz
  have H0 := hid H0'.out
  clear H0'
  generalize ((W5.alloc (.cells #[.int .i64 (wrap64 (k.f0 * wrap64 (1000 - h.f2.f1))), .int .i64 (wrap64 (k.f1 * wrap64 (1000 - h.f2.f0)))] 23)).alloc (.cells #[.int .i64 (wrap64 (k.f0 * h.f1.f0)), .int .i64 (wrap64 (k.f1 * h.f1.f1))] 23)).alloc (.cells #[.int .i64 (wrap64 (k.f0 * h.f2.f0)), .int .i64 (wrap64 (k.f1 * h.f2.f1))] 23) = W8 at *
  refine wp_flow11 [[], [], [], [0], [1, 3, 0], [2, 4, 1, 3, 0]] 6 [(3, none), (4, none), (5, none)]
    (fun g V => V.heap[w.heap.size + 1 + 1 + 1 + 1 + 1]? = some (.cells #[.int .i64 (wrap64 (k.f0 * wrap64 (1000 - h.f2.f1))), .int .i64 (wrap64 (k.f1 * wrap64 (1000 - h.f2.f0)))] 23 (0, 0)) ∧ V.heap[w.heap.size + 1 + 1 + 1 + 1 + 1 + 1]? = some (.cells #[.int .i64 (wrap64 (k.f0 * h.f1.f0)), .int .i64 (wrap64 (k.f1 * h.f1.f1))] 23 (0, 0)) ∧ V.heap[w.heap.size + 1 + 1 + 1 + 1 + 1 + 1 + 1]? = some (.cells #[.int .i64 (wrap64 (k.f0 * h.f2.f0)), .int .i64 (wrap64 (k.f1 * h.f2.f1))] 23 (0, 0)) ∧ V.heap[w.heap.size + 1 + 1]? = some (.cells (if (g 3).isSome = true then #[.int .i64 (wrap64 (k.f0 * wrap64 (1000 - h.f2.f1))), .int .i64 (wrap64 (k.f1 * wrap64 (1000 - h.f2.f0)))] else #[.int .i64 0, .int .i64 0]) 23 (0, 0)) ∧ V.heap[w.heap.size + 1 + 1 + 1]? = some (.cells (if (g 4).isSome = true then #[.int .i64 (wrap64 (k.f0 * h.f1.f0)), .int .i64 (wrap64 (k.f1 * h.f1.f1))] else #[.int .i64 0, .int .i64 0]) 23 (0, 0)) ∧ V.heap[w.heap.size + 1 + 1 + 1 + 1]? = some (.cells (if (g 5).isSome = true then #[.int .i64 (wrap64 (k.f0 * h.f2.f0)), .int .i64 (wrap64 (k.f1 * h.f2.f1))] else #[.int .i64 0, .int .i64 0]) 23 (0, 0)) ∧ Below w.heap.size w V)
    { tmps := #[.agg #[.int .i64 h.f0.f0, .int .i64 h.f0.f1, .int .i64 h.f1.f0, .int .i64 h.f1.f1, .int .i64 h.f2.f0, .int .i64 h.f2.f1], .agg #[.int .i64 k.f0, .int .i64 k.f1], .pointer (some ⟨w.heap.size, 0, none⟩), .pointer (some ⟨w.heap.size + 1, 0, none⟩), .pointer (some ⟨(w.heap.size + 1 + 1), 0, none⟩), .pointer (some ⟨(w.heap.size + 1 + 1 + 1), 0, none⟩), .pointer (some ⟨(w.heap.size + 1 + 1 + 1 + 1), 0, none⟩), .pointer (some ⟨w.heap.size + 1 + 1 + 1 + 1 + 1, 0, none⟩), .pointer (some ⟨w.heap.size + 1 + 1 + 1 + 1 + 1 + 1, 0, none⟩), .pointer (some ⟨w.heap.size + 1 + 1 + 1 + 1 + 1 + 1 + 1, 0, none⟩), .pointer (some ⟨w.heap.size + 1, 0, none⟩), .int .i64 k.f0, .pointer (some ⟨w.heap.size, 4, none⟩), .pointer (some ⟨w.heap.size, 5, none⟩), .int .i64 h.f2.f1, .int .i64 (wrap64 (1000 - h.f2.f1)), .int .i64 (wrap64 (k.f0 * wrap64 (1000 - h.f2.f1))), .pointer (some ⟨w.heap.size + 1, 1, none⟩), .int .i64 k.f1, .pointer (some ⟨w.heap.size, 4, none⟩), .pointer (some ⟨w.heap.size, 4, none⟩), .int .i64 h.f2.f0, .int .i64 (wrap64 (1000 - h.f2.f0)), .int .i64 (wrap64 (k.f1 * wrap64 (1000 - h.f2.f0))), .agg #[.int .i64 (wrap64 (k.f0 * wrap64 (1000 - h.f2.f1))), .int .i64 (wrap64 (k.f1 * wrap64 (1000 - h.f2.f0)))], .pointer (some ⟨w.heap.size + 1, 0, none⟩), .int .i64 k.f0, .pointer (some ⟨w.heap.size, 2, none⟩), .pointer (some ⟨w.heap.size, 2, none⟩), .int .i64 h.f1.f0, .int .i64 (wrap64 (k.f0 * h.f1.f0)), .pointer (some ⟨w.heap.size + 1, 1, none⟩), .int .i64 k.f1, .pointer (some ⟨w.heap.size, 2, none⟩), .pointer (some ⟨w.heap.size, 3, none⟩), .int .i64 h.f1.f1, .int .i64 (wrap64 (k.f1 * h.f1.f1)), .agg #[.int .i64 (wrap64 (k.f0 * h.f1.f0)), .int .i64 (wrap64 (k.f1 * h.f1.f1))], .pointer (some ⟨w.heap.size + 1, 0, none⟩), .int .i64 k.f0, .pointer (some ⟨w.heap.size, 4, none⟩), .pointer (some ⟨w.heap.size, 4, none⟩), .int .i64 h.f2.f0, .int .i64 (wrap64 (k.f0 * h.f2.f0)), .pointer (some ⟨w.heap.size + 1, 1, none⟩), .int .i64 k.f1, .pointer (some ⟨w.heap.size, 4, none⟩), .pointer (some ⟨w.heap.size, 5, none⟩), .int .i64 h.f2.f1, .int .i64 (wrap64 (k.f1 * h.f2.f1)), .agg #[.int .i64 (wrap64 (k.f0 * h.f2.f0)), .int .i64 (wrap64 (k.f1 * h.f2.f1))], .agg #[.int .i64 (wrap64 (k.f0 * wrap64 (1000 - h.f2.f1))), .int .i64 (wrap64 (k.f1 * wrap64 (1000 - h.f2.f0)))], .agg #[.int .i64 (wrap64 (k.f0 * h.f1.f0)), .int .i64 (wrap64 (k.f1 * h.f1.f1))], .agg #[.int .i64 (wrap64 (k.f0 * h.f2.f0)), .int .i64 (wrap64 (k.f1 * h.f2.f1))]], defers := [] }
    mixed (by kernel_rfl) rfl (by kernel_rfl) (by kernel_rfl) (by kernel_rfl) (Ahead.of3 51 54 rfl rfl (by kernel_rfl) rfl rfl) ?_ rfl ?_ rfl ?_
  · exact ⟨e5, e6, e7, H0.out.2.1, H0.out.2.2.1, H0.out.2.2.2, H0.out.1.drew⟩
  · refine ⟨?_, ?_, ?_, ?_, ?_, ?_, trivial⟩
    · exact fun g hbe => FlowOp.val 51 _ rfl rfl fun V ⟨a0, a1, a2, c0, c1, c2, hB_⟩ => by have y0 := blkCell a0 0; have y1 := blkCell a0 1; simp at y0 y1; go_simp
    · exact fun g hbe => FlowOp.val 52 _ rfl rfl fun V ⟨a0, a1, a2, c0, c1, c2, hB_⟩ => by have y0 := blkCell a1 0; have y1 := blkCell a1 1; simp at y0 y1; go_simp
    · exact fun g hbe => FlowOp.val 53 _ rfl rfl fun V ⟨a0, a1, a2, c0, c1, c2, hB_⟩ => by have y0 := blkCell a2 0; have y1 := blkCell a2 1; simp at y0 y1; go_simp
    · refine ⟨fun r => by rfl, fun r W hr hga hbe ⟨a0, a1, a2, c0, c1, c2, hB_⟩ => ?_⟩
      dsimp only [putE, Act.put]
      rw [hr] at c0
      simp only [Option.isSome_none, Bool.false_eq_true, if_false] at c0
      have z0 := blkCell c0 0
      have z1 := blkCell c0 1
      have g0 := blkFrozen c0 0
      have g1 := blkFrozen c0 1
      simp at z0 z1
      exact .inr ⟨_, rfl, by go_simp, st2_other (b := w.heap.size + 1 + 1) (show w.heap.size + 1 + 1 + 1 + 1 + 1 ≠ w.heap.size + 1 + 1 by omega) a0 (.int .i64 (wrap64 (k.f0 * wrap64 (1000 - h.f2.f1)))) (.int .i64 (wrap64 (k.f1 * wrap64 (1000 - h.f2.f0)))), st2_other (b := w.heap.size + 1 + 1) (show w.heap.size + 1 + 1 + 1 + 1 + 1 + 1 ≠ w.heap.size + 1 + 1 by omega) a1 (.int .i64 (wrap64 (k.f0 * wrap64 (1000 - h.f2.f1)))) (.int .i64 (wrap64 (k.f1 * wrap64 (1000 - h.f2.f0)))), st2_other (b := w.heap.size + 1 + 1) (show w.heap.size + 1 + 1 + 1 + 1 + 1 + 1 + 1 ≠ w.heap.size + 1 + 1 by omega) a2 (.int .i64 (wrap64 (k.f0 * wrap64 (1000 - h.f2.f1)))) (.int .i64 (wrap64 (k.f1 * wrap64 (1000 - h.f2.f0)))), by simpa [Got.upd] using st2_same c0 (.int .i64 (wrap64 (k.f0 * wrap64 (1000 - h.f2.f1)))) (.int .i64 (wrap64 (k.f1 * wrap64 (1000 - h.f2.f0)))), by simpa [Got.upd] using st2_other (b := w.heap.size + 1 + 1) (show w.heap.size + 1 + 1 + 1 ≠ w.heap.size + 1 + 1 by omega) c1 (.int .i64 (wrap64 (k.f0 * wrap64 (1000 - h.f2.f1)))) (.int .i64 (wrap64 (k.f1 * wrap64 (1000 - h.f2.f0)))), by simpa [Got.upd] using st2_other (b := w.heap.size + 1 + 1) (show w.heap.size + 1 + 1 + 1 + 1 ≠ w.heap.size + 1 + 1 by omega) c2 (.int .i64 (wrap64 (k.f0 * wrap64 (1000 - h.f2.f1)))) (.int .i64 (wrap64 (k.f1 * wrap64 (1000 - h.f2.f0)))), st2_below hB_ (by omega) (.int .i64 (wrap64 (k.f0 * wrap64 (1000 - h.f2.f1)))) (.int .i64 (wrap64 (k.f1 * wrap64 (1000 - h.f2.f0))))⟩
    · refine ⟨fun r => by rfl, fun r W hr hga hbe ⟨a0, a1, a2, c0, c1, c2, hB_⟩ => ?_⟩
      dsimp only [putE, Act.put]
      rw [hr] at c1
      simp only [Option.isSome_none, Bool.false_eq_true, if_false] at c1
      have z0 := blkCell c1 0
      have z1 := blkCell c1 1
      have g0 := blkFrozen c1 0
      have g1 := blkFrozen c1 1
      simp at z0 z1
      exact .inr ⟨_, rfl, by go_simp, st2_other (b := w.heap.size + 1 + 1 + 1) (show w.heap.size + 1 + 1 + 1 + 1 + 1 ≠ w.heap.size + 1 + 1 + 1 by omega) a0 (.int .i64 (wrap64 (k.f0 * h.f1.f0))) (.int .i64 (wrap64 (k.f1 * h.f1.f1))), st2_other (b := w.heap.size + 1 + 1 + 1) (show w.heap.size + 1 + 1 + 1 + 1 + 1 + 1 ≠ w.heap.size + 1 + 1 + 1 by omega) a1 (.int .i64 (wrap64 (k.f0 * h.f1.f0))) (.int .i64 (wrap64 (k.f1 * h.f1.f1))), st2_other (b := w.heap.size + 1 + 1 + 1) (show w.heap.size + 1 + 1 + 1 + 1 + 1 + 1 + 1 ≠ w.heap.size + 1 + 1 + 1 by omega) a2 (.int .i64 (wrap64 (k.f0 * h.f1.f0))) (.int .i64 (wrap64 (k.f1 * h.f1.f1))), by simpa [Got.upd] using st2_other (b := w.heap.size + 1 + 1 + 1) (show w.heap.size + 1 + 1 ≠ w.heap.size + 1 + 1 + 1 by omega) c0 (.int .i64 (wrap64 (k.f0 * h.f1.f0))) (.int .i64 (wrap64 (k.f1 * h.f1.f1))), by simpa [Got.upd] using st2_same c1 (.int .i64 (wrap64 (k.f0 * h.f1.f0))) (.int .i64 (wrap64 (k.f1 * h.f1.f1))), by simpa [Got.upd] using st2_other (b := w.heap.size + 1 + 1 + 1) (show w.heap.size + 1 + 1 + 1 + 1 ≠ w.heap.size + 1 + 1 + 1 by omega) c2 (.int .i64 (wrap64 (k.f0 * h.f1.f0))) (.int .i64 (wrap64 (k.f1 * h.f1.f1))), st2_below hB_ (by omega) (.int .i64 (wrap64 (k.f0 * h.f1.f0))) (.int .i64 (wrap64 (k.f1 * h.f1.f1)))⟩
    · refine ⟨fun r => by rfl, fun r W hr hga hbe ⟨a0, a1, a2, c0, c1, c2, hB_⟩ => ?_⟩
      dsimp only [putE, Act.put]
      rw [hr] at c2
      simp only [Option.isSome_none, Bool.false_eq_true, if_false] at c2
      have z0 := blkCell c2 0
      have z1 := blkCell c2 1
      have g0 := blkFrozen c2 0
      have g1 := blkFrozen c2 1
      simp at z0 z1
      exact .inr ⟨_, rfl, by go_simp, st2_other (b := w.heap.size + 1 + 1 + 1 + 1) (show w.heap.size + 1 + 1 + 1 + 1 + 1 ≠ w.heap.size + 1 + 1 + 1 + 1 by omega) a0 (.int .i64 (wrap64 (k.f0 * h.f2.f0))) (.int .i64 (wrap64 (k.f1 * h.f2.f1))), st2_other (b := w.heap.size + 1 + 1 + 1 + 1) (show w.heap.size + 1 + 1 + 1 + 1 + 1 + 1 ≠ w.heap.size + 1 + 1 + 1 + 1 by omega) a1 (.int .i64 (wrap64 (k.f0 * h.f2.f0))) (.int .i64 (wrap64 (k.f1 * h.f2.f1))), st2_other (b := w.heap.size + 1 + 1 + 1 + 1) (show w.heap.size + 1 + 1 + 1 + 1 + 1 + 1 + 1 ≠ w.heap.size + 1 + 1 + 1 + 1 by omega) a2 (.int .i64 (wrap64 (k.f0 * h.f2.f0))) (.int .i64 (wrap64 (k.f1 * h.f2.f1))), by simpa [Got.upd] using st2_other (b := w.heap.size + 1 + 1 + 1 + 1) (show w.heap.size + 1 + 1 ≠ w.heap.size + 1 + 1 + 1 + 1 by omega) c0 (.int .i64 (wrap64 (k.f0 * h.f2.f0))) (.int .i64 (wrap64 (k.f1 * h.f2.f1))), by simpa [Got.upd] using st2_other (b := w.heap.size + 1 + 1 + 1 + 1) (show w.heap.size + 1 + 1 + 1 ≠ w.heap.size + 1 + 1 + 1 + 1 by omega) c1 (.int .i64 (wrap64 (k.f0 * h.f2.f0))) (.int .i64 (wrap64 (k.f1 * h.f2.f1))), by simpa [Got.upd] using st2_same c2 (.int .i64 (wrap64 (k.f0 * h.f2.f0))) (.int .i64 (wrap64 (k.f1 * h.f2.f1))), st2_below hB_ (by omega) (.int .i64 (wrap64 (k.f0 * h.f2.f0))) (.int .i64 (wrap64 (k.f1 * h.f2.f1)))⟩

  · rintro r V ⟨a0, a1, a2, c0, c1, c2, hB_⟩ hr
    obtain ⟨u3, h3⟩ := hr (3, none) (by simp)
    obtain ⟨u4, h4⟩ := hr (4, none) (by simp)
    obtain ⟨u5, h5⟩ := hr (5, none) (by simp)
    simp only at h3 h4 h5
    rw [h3] at c0
    rw [h4] at c1
    rw [h5] at c2
    simp only [Option.isSome_some, if_true] at c0 c1 c2
    have q0 := blkCell c0 0
    have q1 := blkCell c0 1
    have q2 := blkCell c1 0
    have q3 := blkCell c1 1
    have q4 := blkCell c2 0
    have q5 := blkCell c2 1
    simp at q0 q1 q2 q3 q4 q5
    have HB := hid hB_
    clear hB_ a0 a1 a2 c0 c1 c2 H0 e5 e6 e7
    simp only [putE, Act.put, List.drop_succ_cons, List.drop_zero, List.drop_nil]
    go_wp2
    refine bodyPost_ret (v := .tuple #[.agg #[.int .i64 (wrap64 (k.f0 * wrap64 (1000 - h.f2.f1))), .int .i64 (wrap64 (k.f1 * wrap64 (1000 - h.f2.f0)))], .agg #[.int .i64 (wrap64 (k.f0 * h.f1.f0)), .int .i64 (wrap64 (k.f1 * h.f1.f1))], .agg #[.int .i64 (wrap64 (k.f0 * h.f2.f0)), .int .i64 (wrap64 (k.f1 * h.f2.f1))]]) (by simp [results, Try.results64, go_sem, q0, q1, q2, q3, q4, q5]) rfl ⟨rfl, HB.out⟩
end Go.Proofs.Ytbmkbokkmmdjdaa
end
section
namespace Go.Proofs.Ytbmkbokkmmdjdaa
open Go.RowKit Go.Proofs.YtbmkbokkmmdjdaaW.PrintWords Go.Proofs.YtbmkbokkmmdjdaaW.PrintLast Go.Proofs.YtbmkbokkmmdjdaaW.PrintMore
open Q Go.Shelf
attribute [local go_sem] Oper.semAt_some wide_depth wide_fn
set_option linter.unusedVariables false
set_option linter.unusedSimpArgs false
attribute [local go_sem] max2_int min2_int max_two min_two
set_option maxRecDepth 100000 in
set_option maxHeartbeats 1000000 in
theorem shareR_any (p : S52) (w : World) : Calls Try.prog 45 #[.agg #[.int .i64 p.f0.f0, .int .i64 p.f0.f1, .int .i64 p.f1.f0, .int .i64 p.f1.f1, .int .i64 p.f2.f0, .int .i64 p.f2.f1, .int .i64 p.f3.f0, .int .i64 p.f3.f1, .int .i64 p.f4]] w (RetSpan (shareS p) w) := by
  have hu := Try.underlying23
  have hu1 := Try.underlying52
  have HB := Below.refl w.heap.size w
  by_cases h1 : 0 < p.f0.f1
  · have d1 : decide (0 < p.f0.f1) = true := decide_eq_true h1
    have n1 : ¬ p.f0.f1 = 0 := by omega
    by_cases h2 : 0 < p.f0.f0
    · have d2 : decide (0 < p.f0.f0) = true := decide_eq_true h2
      have n2 : ¬ p.f0.f0 = 0 := by omega
      have HV := hid (show shareS p = ⟨wrap64 (Int.tdiv (wrap64 (1000 * p.f1.f0)) p.f0.f1), mn 1000 (shareQ p)⟩ by unfold shareS shareLo shareHi; rw [if_pos h1, if_pos h2])
      clear h1 h2
      go_enter Try.func45, Try.ntmps45
      go_wp2
      all_goals
        try simp only [wrap_i] at *
        rw [RetSpan_of HV.out]
        refine bodyPost_ret (v := .agg #[.int .i64 (wrap64 (Int.tdiv (wrap64 (1000 * p.f1.f0)) p.f0.f1)), .int .i64 (mn 1000 (shareQ p))]) (by simp [results, Try.results45, go_sem, wrap_i, shareQ] <;> (unfold mn; split <;> omega)) rfl ⟨rfl, ?_⟩
        exact (((HB.alloc (Nat.le_refl _) _).alloc (by simp) _).alloc (by simp; omega) _)
    · have d2 : decide (0 < p.f0.f0) = false := decide_eq_false h2
      have HV := hid (show shareS p = ⟨wrap64 (Int.tdiv (wrap64 (1000 * p.f1.f0)) p.f0.f1), 1000⟩ by unfold shareS shareLo shareHi; rw [if_pos h1, if_neg h2])
      clear h1 h2
      go_enter Try.func45, Try.ntmps45
      go_wp2
      all_goals
        try simp only [wrap_i] at *
        rw [RetSpan_of HV.out]
        refine bodyPost_ret (v := .agg #[.int .i64 (wrap64 (Int.tdiv (wrap64 (1000 * p.f1.f0)) p.f0.f1)), .int .i64 (1000)]) (by simp [results, Try.results45, go_sem, wrap_i, shareQ] <;> (unfold mn; split <;> omega)) rfl ⟨rfl, ?_⟩
        exact (((HB.alloc (Nat.le_refl _) _).alloc (by simp) _).alloc (by simp; omega) _)
  · have d1 : decide (0 < p.f0.f1) = false := decide_eq_false h1
    by_cases h2 : 0 < p.f0.f0
    · have d2 : decide (0 < p.f0.f0) = true := decide_eq_true h2
      have n2 : ¬ p.f0.f0 = 0 := by omega
      have HV := hid (show shareS p = ⟨0, mn 1000 (shareQ p)⟩ by unfold shareS shareLo shareHi; rw [if_neg h1, if_pos h2])
      clear h1 h2
      go_enter Try.func45, Try.ntmps45
      go_wp2
      all_goals
        try simp only [wrap_i] at *
        rw [RetSpan_of HV.out]
        refine bodyPost_ret (v := .agg #[.int .i64 (0), .int .i64 (mn 1000 (shareQ p))]) (by simp [results, Try.results45, go_sem, wrap_i, shareQ] <;> (unfold mn; split <;> omega)) rfl ⟨rfl, ?_⟩
        exact (((HB.alloc (Nat.le_refl _) _).alloc (by simp) _).alloc (by simp; omega) _)
    · have d2 : decide (0 < p.f0.f0) = false := decide_eq_false h2
      have HV := hid (show shareS p = ⟨0, 1000⟩ by unfold shareS shareLo shareHi; rw [if_neg h1, if_neg h2])
      clear h1 h2
      go_enter Try.func45, Try.ntmps45
      go_wp2
      all_goals
        try simp only [wrap_i] at *
        rw [RetSpan_of HV.out]
        refine bodyPost_ret (v := .agg #[.int .i64 (0), .int .i64 (1000)]) (by simp [results, Try.results45, go_sem, wrap_i, shareQ] <;> (unfold mn; split <;> omega)) rfl ⟨rfl, ?_⟩
        exact (((HB.alloc (Nat.le_refl _) _).alloc (by simp) _).alloc (by simp; omega) _)
end Go.Proofs.Ytbmkbokkmmdjdaa
end
section
namespace Go.Proofs.Ytbmkbokkmmdjdaa
open Go.RowKit Go.Proofs.YtbmkbokkmmdjdaaW.PrintWords Go.Proofs.YtbmkbokkmmdjdaaW.PrintLast Go.Proofs.YtbmkbokkmmdjdaaW.PrintMore
open Q Go.Shelf
attribute [local go_sem] Oper.semAt_some wide_depth wide_fn
set_option linter.unusedVariables false
set_option linter.unusedSimpArgs false

structure QI (w : World) (ho fi : S23) (A : Option Addr) (c : Nat) (l : List S36) (s : KS) (b : S23) (vh vp : Value) (W : World) : Prop where
  st : W.heap[w.heap.size + 1 + 1]? = some (.cells #[.int .i64 b.f0, .int .i64 b.f1] 23 (0, 0))
  rh : W.ownsRow (w.heap.size + 1) 60 6 vh s.hs.length (hF s.hs)
  rp : W.ownsRow (w.heap.size + 1) 52 9 vp s.ps.length (pF s.ps)
  bx : W.heap[w.heap.size]? = some (.cells #[.int .i64 ho.f0, .int .i64 ho.f1, .int .i64 fi.f0, .int .i64 fi.f1, .slice A l.length c] 26 (0, 0))
  be : Below w.heap.size w W
theorem QI.grow {w W W' : World} {ho fi : S23} {A : Option Addr} {c : Nat} {l : List S36} {s : KS} {b : S23} {vh vp : Value} (h : QI w ho fi A c l s b vh vp W) (hb : Below W.heap.size W W') : QI w ho fi A c l s b vh vp W' :=
  ⟨heap_grow h.st hb, rings_set h.rh hb, rings_set h.rp hb, heap_grow h.bx hb, h.be.trans (hb.mono h.be.size)⟩
theorem QI.heaps {w W W' : World} {ho fi : S23} {A : Option Addr} {c : Nat} {l : List S36} {s : KS} {b : S23} {vh vp : Value} {vh' : Value} (h : QI w ho fi A c l s b vh vp W) (x : S60)
    (hr : W'.ownsRow (w.heap.size + 1) 60 6 vh' (s.hs.length + 1) (hF s.hs ++ hC x)) (hg : W.grownBy W' vh.ownBlock) :
    QI w ho fi A c l { s with hs := s.hs ++ [x] } b vh' vp W' := by
  have n1 := row_ne_blk h.rh h.st (by decide)
  have n2 := row_ne_blk h.rh h.bx (by decide)
  refine ⟨grown_blk hg n1 h.st, ?_, h.rp.kept hg (rows_ne h.rp h.rh (by decide)), grown_blk hg n2 h.bx, h.be.grown hg h.be.size (fun j hj => by have := (h.rh.lt j hj).1; omega)⟩
  have e : hF (s.hs ++ [x]) = hF s.hs ++ hC x := by simp [hF]
  rw [show ({ s with hs := s.hs ++ [x] } : KS).hs = s.hs ++ [x] from rfl, e, List.length_append]
  exact hr
theorem QI.close {w W W' : World} {ho fi : S23} {A : Option Addr} {c : Nat} {l : List S36} {s : KS} {b : S23} {vh vp : Value} {vp' : Value} (h : QI w ho fi A c l s b vh vp W) (x : S52)
    (hr : W'.ownsRow (w.heap.size + 1) 52 9 vp' (s.ps.length + 1) (pF s.ps ++ pC x)) (hg : W.grownBy W' vp.ownBlock) :
    QI w ho fi A c l { s with ps := s.ps ++ [x] } b vh vp' W' := by
  have n1 := row_ne_blk h.rp h.st (by decide)
  have n2 := row_ne_blk h.rp h.bx (by decide)
  refine ⟨grown_blk hg n1 h.st, h.rh.kept hg (rows_ne h.rh h.rp (by decide)), ?_, grown_blk hg n2 h.bx, h.be.grown hg h.be.size (fun j hj => by have := (h.rp.lt j hj).1; omega)⟩
  have e : pF (s.ps ++ [x]) = pF s.ps ++ pC x := by simp [pF]
  rw [show ({ s with ps := s.ps ++ [x] } : KS).ps = s.ps ++ [x] from rfl, e, List.length_append]
  exact hr
theorem QI.before {w W : World} {ho fi : S23} {A : Option Addr} {c : Nat} {l : List S36} {s : KS} {b : S23} {vh vp : Value} (h : QI w ho fi A c l s b vh vp W) (v : S23) : QI w ho fi A c l s v vh vp ((W.setCell ⟨w.heap.size + 1 + 1, 0, none⟩ (.int .i64 v.f0)).setCell ⟨w.heap.size + 1 + 1, 1, none⟩ (.int .i64 v.f1)) := by
  have n1 := row_ne_blk h.rh h.st (by decide)
  have n2 := row_ne_blk h.rp h.st (by decide)
  exact ⟨st2_same h.st _ _, ownsRow_setCell_other (a := ⟨w.heap.size + 1 + 1, 1, none⟩) (ownsRow_setCell_other (a := ⟨w.heap.size + 1 + 1, 0, none⟩) h.rh n1 _) n1 _, ownsRow_setCell_other (a := ⟨w.heap.size + 1 + 1, 1, none⟩) (ownsRow_setCell_other (a := ⟨w.heap.size + 1 + 1, 0, none⟩) h.rp n2 _) n2 _, st2_other (by omega) h.bx _ _, st2_below h.be (by omega) _ _⟩
theorem QI.pform {w W : World} {ho fi : S23} {A : Option Addr} {c : Nat} {l : List S36} {s : KS} {b : S23} {vh vp : Value} (h : QI w ho fi A c l s b vh vp W) (hn : 0 < s.ps.length) : ∃ g cap, vp = .slice (some ⟨g, 0, none⟩) s.ps.length cap ∧ w.heap.size + 1 ≤ g ∧ g < W.heap.size ∧ g ≠ w.heap.size + 1 + 1 := by
  obtain ⟨m, hm⟩ : ∃ m, s.ps.length = m + 1 := ⟨s.ps.length - 1, by omega⟩
  have hr := h.rp
  rw [hm] at hr
  obtain ⟨g, cap, rfl⟩ := ownsRow_succ hr
  refine ⟨g, cap, by rw [hm], (hr.lt g rfl).1, (hr.lt g rfl).2, ?_⟩
  have := row_ne_blk h.rp h.st (by decide)
  simpa [Value.ownBlock] using this
theorem QI.period {w W : World} {ho fi : S23} {A : Option Addr} {c : Nat} {l : List S36} {s : KS} {b : S23} {vh : Value} {g cap : Nat} (h : QI w ho fi A c l s b vh (.slice (some ⟨g, 0, none⟩) s.ps.length cap) W) {k j : Nat} {v : Value} {p : S52} (hk : k < s.ps.length) (hj : j < 9)
    (hp : pC p = (pC (s.ps.getD k z52)).set j v) :
    QI w ho fi A c l { s with ps := s.ps.set k p } b vh (.slice (some ⟨g, 0, none⟩) s.ps.length cap) (W.setCell ⟨g, k * 9 + j, none⟩ v) := by
  have n1 : g ≠ w.heap.size + 1 + 1 := by have := row_ne_blk h.rp h.st (by decide); simpa [Value.ownBlock] using this
  have n2 := (h.rp.lt g rfl).1
  have n5 : vh.ownBlock ≠ some g := by
    rcases rows_ne h.rh h.rp (by decide) with e | e
    · rw [e]; simp
    · simpa [Value.ownBlock] using e
  have hs := h.rp.stored (k * 9 + j) v
  refine ⟨set_other (p := ⟨g, k * 9 + j, none⟩) (by simp; omega) h.st, ownsRow_setCell_other h.rh n5 _, ?_, set_other (p := ⟨g, k * 9 + j, none⟩) (by simp; omega) h.bx, h.be.setCell (p := ⟨g, k * 9 + j, none⟩) (by simp; omega) _⟩
  show (W.setCell ⟨g, k * 9 + j, none⟩ v).ownsRow _ _ _ _ (s.ps.set k p).length (pF (s.ps.set k p))
  rw [pF_set hk hj hp, List.length_set]
  exact hs.1
theorem QI.pcell {w W : World} {ho fi : S23} {A : Option Addr} {c : Nat} {l : List S36} {s : KS} {b : S23} {vh : Value} {g cap N : Nat} (h : QI w ho fi A c l s b vh (.slice (some ⟨g, 0, none⟩) N cap) W) (hN : s.ps.length = N) {k j : Nat} (hk : k < N) (hj : j < 9) :
    W.cell? ⟨g, k * 9 + j, none⟩ = (pC (s.ps.getD k z52))[j]? := by
  subst hN
  have e := h.rp.cellAt (k * 9 + j) (by omega)
  rw [pF_at hk hj] at e
  exact e
theorem QI.pfrozen {w W : World} {ho fi : S23} {A : Option Addr} {c : Nat} {l : List S36} {s : KS} {b : S23} {vh : Value} {g cap N : Nat} (h : QI w ho fi A c l s b vh (.slice (some ⟨g, 0, none⟩) N cap) W) (hN : s.ps.length = N) (j : Nat) : W.frozen? ⟨g, j, none⟩ = false := by
  subst hN
  exact h.rp.frozenAt j
theorem QI.span0 {w W : World} {ho fi : S23} {A : Option Addr} {c : Nat} {l : List S36} {s : KS} {b : S23} {vh : Value} {g cap N : Nat} (h : QI w ho fi A c l s b vh (.slice (some ⟨g, 0, none⟩) N cap) W) (hN : s.ps.length = N) {k : Nat} (hk : k < s.ps.length) (v : S23) :
    QI w ho fi A c l { s with ps := s.ps.set k { s.ps.getD k z52 with f0 := v } } b vh (.slice (some ⟨g, 0, none⟩) N cap) ((W.setCell ⟨g, k * 9, none⟩ (.int .i64 v.f0)).setCell ⟨g, k * 9 + 1, none⟩ (.int .i64 v.f1)) := by
  subst hN
  have h1 := h.period (j := 0) (v := .int .i64 v.f0) (p := { s.ps.getD k z52 with f0 := ⟨v.f0, (s.ps.getD k z52).f0.f1⟩ }) hk (by omega) rfl
  have hl : (s.ps.set k { s.ps.getD k z52 with f0 := ⟨v.f0, (s.ps.getD k z52).f0.f1⟩ }).length = s.ps.length := List.length_set
  have h1' := h1
  rw [← hl] at h1'
  have h2 := h1'.period (k := k) (j := 1) (v := .int .i64 v.f1) (p := { s.ps.getD k z52 with f0 := v }) (by rw [hl]; exact hk) (by omega) (by rw [getD_set_same hk]; rfl)
  simp only [List.set_set] at h2
  rw [hl] at h2
  exact h2
theorem QI.span1 {w W : World} {ho fi : S23} {A : Option Addr} {c : Nat} {l : List S36} {s : KS} {b : S23} {vh : Value} {g cap N : Nat} (h : QI w ho fi A c l s b vh (.slice (some ⟨g, 0, none⟩) N cap) W) (hN : s.ps.length = N) {k : Nat} (hk : k < s.ps.length) (v : S23) :
    QI w ho fi A c l { s with ps := s.ps.set k { s.ps.getD k z52 with f1 := v } } b vh (.slice (some ⟨g, 0, none⟩) N cap) ((W.setCell ⟨g, k * 9 + 2, none⟩ (.int .i64 v.f0)).setCell ⟨g, k * 9 + 3, none⟩ (.int .i64 v.f1)) := by
  subst hN
  have h1 := h.period (j := 2) (v := .int .i64 v.f0) (p := { s.ps.getD k z52 with f1 := ⟨v.f0, (s.ps.getD k z52).f1.f1⟩ }) hk (by omega) rfl
  have hl : (s.ps.set k { s.ps.getD k z52 with f1 := ⟨v.f0, (s.ps.getD k z52).f1.f1⟩ }).length = s.ps.length := List.length_set
  have h1' := h1
  rw [← hl] at h1'
  have h2 := h1'.period (k := k) (j := 3) (v := .int .i64 v.f1) (p := { s.ps.getD k z52 with f1 := v }) (by rw [hl]; exact hk) (by omega) (by rw [getD_set_same hk]; rfl)
  simp only [List.set_set] at h2
  rw [hl] at h2
  exact h2
theorem QI.span2 {w W : World} {ho fi : S23} {A : Option Addr} {c : Nat} {l : List S36} {s : KS} {b : S23} {vh : Value} {g cap N : Nat} (h : QI w ho fi A c l s b vh (.slice (some ⟨g, 0, none⟩) N cap) W) (hN : s.ps.length = N) {k : Nat} (hk : k < s.ps.length) (v : S23) :
    QI w ho fi A c l { s with ps := s.ps.set k { s.ps.getD k z52 with f2 := v } } b vh (.slice (some ⟨g, 0, none⟩) N cap) ((W.setCell ⟨g, k * 9 + 4, none⟩ (.int .i64 v.f0)).setCell ⟨g, k * 9 + 5, none⟩ (.int .i64 v.f1)) := by
  subst hN
  have h1 := h.period (j := 4) (v := .int .i64 v.f0) (p := { s.ps.getD k z52 with f2 := ⟨v.f0, (s.ps.getD k z52).f2.f1⟩ }) hk (by omega) rfl
  have hl : (s.ps.set k { s.ps.getD k z52 with f2 := ⟨v.f0, (s.ps.getD k z52).f2.f1⟩ }).length = s.ps.length := List.length_set
  have h1' := h1
  rw [← hl] at h1'
  have h2 := h1'.period (k := k) (j := 5) (v := .int .i64 v.f1) (p := { s.ps.getD k z52 with f2 := v }) (by rw [hl]; exact hk) (by omega) (by rw [getD_set_same hk]; rfl)
  simp only [List.set_set] at h2
  rw [hl] at h2
  exact h2
theorem QI.span3 {w W : World} {ho fi : S23} {A : Option Addr} {c : Nat} {l : List S36} {s : KS} {b : S23} {vh : Value} {g cap N : Nat} (h : QI w ho fi A c l s b vh (.slice (some ⟨g, 0, none⟩) N cap) W) (hN : s.ps.length = N) {k : Nat} (hk : k < s.ps.length) (v : S23) :
    QI w ho fi A c l { s with ps := s.ps.set k { s.ps.getD k z52 with f3 := v } } b vh (.slice (some ⟨g, 0, none⟩) N cap) ((W.setCell ⟨g, k * 9 + 6, none⟩ (.int .i64 v.f0)).setCell ⟨g, k * 9 + 7, none⟩ (.int .i64 v.f1)) := by
  subst hN
  have h1 := h.period (j := 6) (v := .int .i64 v.f0) (p := { s.ps.getD k z52 with f3 := ⟨v.f0, (s.ps.getD k z52).f3.f1⟩ }) hk (by omega) rfl
  have hl : (s.ps.set k { s.ps.getD k z52 with f3 := ⟨v.f0, (s.ps.getD k z52).f3.f1⟩ }).length = s.ps.length := List.length_set
  have h1' := h1
  rw [← hl] at h1'
  have h2 := h1'.period (k := k) (j := 7) (v := .int .i64 v.f1) (p := { s.ps.getD k z52 with f3 := v }) (by rw [hl]; exact hk) (by omega) (by rw [getD_set_same hk]; rfl)
  simp only [List.set_set] at h2
  rw [hl] at h2
  exact h2

theorem ps_cnt (l : List S36) : ∀ k, k ≤ l.length → (keptOf (l.take k)).ps.length = cnt (isKind 6) (l.take k) + 1
  | 0, _ => by simp [keptOf, cnt]
  | k + 1, h => by
    have ih := ps_cnt l k (by omega)
    rw [kept_take (by omega : k < l.length), cnt_take (by omega : k < l.length)]
    obtain ⟨s, hs⟩ : ∃ s, keptOf (l.take k) = s := ⟨_, rfl⟩
    rw [hs] at ih ⊢
    rw [show (if isKind 6 l[k] = true then 1 else 0) = if l[k].f1 = 6 then 1 else 0 from by unfold isKind; simp]
    unfold stepK
    by_cases h6 : l[k].f1 = 6
    · rw [if_neg (by omega), if_neg (by omega), if_neg (by omega), if_neg (by omega), if_pos h6, if_pos h6]
      unfold closeK
      rw [List.length_append, ih]
      rfl
    · rw [show (if l[k].f1 = 6 then 1 else 0) = 0 from if_neg h6, Nat.add_zero, ← ih]
      repeat' split
      all_goals simp [inK, backK, chargeK, packK, claimK]
      all_goals omega
theorem pk_at {ho fi : S23} {l : List S36} (hv : bookErr ho fi l = 0) : ∀ k, k ≤ l.length → ∀ lot p, ((keptOf (l.take k)).pk.find? fun p => p.1 == lot) = some p → ∃ a, ∃ h : a < l.length, a < k ∧ isLot 4 lot l[a] = true ∧ (∀ j (hj : j < l.length), j < a → isLot 4 lot l[j] = false) ∧ p.2.1 = (cnt (isKind 6) (l.take a) : Int) ∧ p.2.2 = l[a].f4
  | 0, _, lot, p, h => by simp [keptOf] at h
  | k + 1, hk, lot, p, h => by
    have hlt : k < l.length := by omega
    have ih := pk_at hv k (by omega) lot
    have hok := stepOk_all hv k hlt
    have hpc := ps_cnt l k (by omega)
    have hpk := (pki_take l k (by omega)).pk
    rw [kept_take hlt] at h
    generalize keptOf (l.take k) = s at *
    have old : (s.pk.find? fun p => p.1 == lot) = some p → ∃ a, ∃ h : a < l.length, a < k + 1 ∧ isLot 4 lot l[a] = true ∧ (∀ j (hj : j < l.length), j < a → isLot 4 lot l[j] = false) ∧ p.2.1 = (cnt (isKind 6) (l.take a) : Int) ∧ p.2.2 = l[a].f4 := fun h => by
      obtain ⟨a, h1, h2, h3⟩ := ih p h
      exact ⟨a, h1, by omega, h3⟩
    by_cases h4 : l[k].f1 = 4
    · have e : stepK s l[k] = packK s l[k] := by unfold stepK; simp [h4]
      rw [e] at h
      simp only [packK, List.find?_append] at h
      cases hf : s.pk.find? fun p => p.1 == lot with
      | some q =>
        rw [hf] at h
        simp at h
        subst h
        exact old hf
      | none =>
        rw [hf] at h
        simp only [Option.none_or, List.find?_cons, List.find?_nil] at h
        by_cases hl : l[k].f3 = lot
        · rw [show (l[k].f3 == lot) = true by simpa using hl] at h
          cases h
          have hany : (l.take k).any (isLot 4 lot) = false := by rw [← hpk lot, hf]; rfl
          refine ⟨k, hlt, by omega, by unfold isLot; simp [h4, hl], fun j hj hjk => ?_, ?_, rfl⟩
          · have := List.any_eq_false.1 hany l[j] (by rw [List.mem_take_iff_getElem]; exact ⟨j, by omega, rfl⟩)
            simpa using this
          · simp only [hpc]; omega
        · rw [show (l[k].f3 == lot) = false by simpa using hl] at h
          cases h
    · have e : (stepK s l[k]).pk = s.pk := by
        unfold stepK
        repeat' split
        all_goals first | rfl | omega
      rw [e] at h
      exact old h
theorem pk_idx {ho fi : S23} {l : List S36} (hv : bookErr ho fi l = 0) {k : Nat} (hk : k ≤ l.length) {lot : Int} {p : Int × Int × S23} (h : ((keptOf (l.take k)).pk.find? fun p => p.1 == lot) = some p) : ∃ a, ∃ h : a < l.length, idx (isLot 4 lot) l = (a : Int) ∧ (keptOf (l.take k)).at lot = ((cnt (isKind 6) (l.take a) : Int), l[a].f4) := by
  obtain ⟨a, h1, h2, h3, h4, h5, h6⟩ := pk_at hv k hk lot p h
  refine ⟨a, h1, idx_at h1 h3 h4, ?_⟩
  unfold KS.at
  rw [h]
  obtain ⟨p1, p2, p3⟩ := p
  simp only at h5 h6
  simp [h5, h6]
theorem share_set (p : S52) (v : Int) : shareS { p with f4 := v } = shareS p := rfl
theorem before_step {s : KS} {x : S36} (hn : 1 ≤ s.ps.length) : beforeK (stepK s x) = if x.f1 = 6 then shareS s.last else beforeK s := by
  have hset : ∀ p, beforeK { s with ps := s.ps.set (s.ps.length - 1) p } = beforeK s := fun p => by
    unfold beforeK
    simp only [List.length_set]
    split
    · congr 1
      simp [List.getD, List.getElem?_set, show ¬ s.ps.length - 1 = s.ps.length - 2 by omega]
    · rfl
  by_cases h6 : x.f1 = 6
  · rw [if_pos h6]
    have e : stepK s x = closeK s := by unfold stepK; simp [h6]
    rw [e]
    unfold beforeK closeK KS.last
    simp only [List.length_append, List.length_cons, List.length_nil]
    rw [if_pos (by omega), show s.ps.length + (0 + 1) - 2 = s.ps.length - 1 by omega]
    congr 1
    simp [List.getD, List.getElem?_append_left (show s.ps.length - 1 < s.ps.length by omega)]
  · rw [if_neg h6]
    unfold stepK
    by_cases k1 : x.f1 = 1
    · rw [if_pos k1]; rfl
    rw [if_neg k1]
    by_cases k5 : x.f1 = 5
    · rw [if_pos k5]; rfl
    rw [if_neg k5]
    by_cases k2 : x.f1 = 2
    · rw [if_pos k2]; exact hset _
    rw [if_neg k2]
    by_cases k4 : x.f1 = 4
    · rw [if_pos k4]; exact hset _
    rw [if_neg k4, if_neg h6]
    by_cases k7 : x.f1 = 7
    · rw [if_pos k7]
      unfold beforeK claimK claimP
      simp only [List.length_set]
      split
      · by_cases e : (s.at x.f3).1.toNat = s.ps.length - 2
        · rw [e, getD_set_same (by omega)]
          exact share_set _ _
        · simp [List.getD, List.getElem?_set, e]
      · rfl
    · rw [if_neg k7]
end Go.Proofs.Ytbmkbokkmmdjdaa
end
