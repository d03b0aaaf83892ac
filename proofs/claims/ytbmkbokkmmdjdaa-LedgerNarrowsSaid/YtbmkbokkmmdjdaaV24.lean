-- D4 (wip/pack9.py)
import Derived.Test.YtbmkbokkmmdjdaaV23
section
namespace Go.Proofs.Ytbmkbokkmmdjdaa
open Go.RowKit Go.Proofs.YtbmkbokkmmdjdaaW.PrintWords Go.Proofs.YtbmkbokkmmdjdaaW.PrintLast Go.Proofs.YtbmkbokkmmdjdaaW.PrintMore
open Q Go.Shelf
attribute [local go_sem] Oper.semAt_some wide_depth wide_fn
set_option linter.unusedVariables false
set_option linter.unusedSimpArgs false

def bareR (x : S36) : S36 := ⟨x.f0, x.f1, if x.f1 = 2 then x.f2 else 0, if x.f1 = 4 ∨ x.f1 = 7 ∨ x.f1 = 8 then x.f3 else 0, if 1 ≤ x.f1 ∧ x.f1 ≤ 5 then x.f4 else z23, if x.f1 = 1 then x.f5 else z23, if x.f1 = 1 then x.f6 else z23, if x.f1 = 7 then x.f7 else 0⟩
set_option maxRecDepth 100000 in
set_option maxHeartbeats 8000000 in
set_option pp.deepTerms true in
set_option pp.maxSteps 1000000 in
theorem bareR_any (x : S36) (w : World) (hk : 1 ≤ x.f1 ∧ x.f1 ≤ 8) : Calls Try.prog 50 #[.agg #[.int .i64 x.f0, .int .u8 x.f1, .int .i64 x.f2, .int .i64 x.f3, .int .i64 x.f4.f0, .int .i64 x.f4.f1, .int .i64 x.f5.f0, .int .i64 x.f5.f1, .int .i64 x.f6.f0, .int .i64 x.f6.f1, .int .i64 x.f7]] w fun e w' => e = .returned (.agg #[.int .i64 (bareR x).f0, .int .u8 (bareR x).f1, .int .i64 (bareR x).f2, .int .i64 (bareR x).f3, .int .i64 (bareR x).f4.f0, .int .i64 (bareR x).f4.f1, .int .i64 (bareR x).f5.f0, .int .i64 (bareR x).f5.f1, .int .i64 (bareR x).f6.f0, .int .i64 (bareR x).f6.f1, .int .i64 (bareR x).f7]) ∧ Below w.heap.size w w' := by
  have hu := Try.underlying36
  have hu1 := Try.underlying23
  have hbel := (((Below.refl w.heap.size w).alloc (Nat.le_refl _) (.cells #[.int .i64 x.f0, .int .u8 x.f1, .int .i64 x.f2, .int .i64 x.f3, .int .i64 x.f4.f0, .int .i64 x.f4.f1, .int .i64 x.f5.f0, .int .i64 x.f5.f1, .int .i64 x.f6.f0, .int .i64 x.f6.f1, .int .i64 x.f7] 36)).alloc (by simp) (.cells #[.int .i64 0, .int .u8 0, .int .i64 0, .int .i64 0, .int .i64 0, .int .i64 0, .int .i64 0, .int .i64 0, .int .i64 0, .int .i64 0, .int .i64 0] 36)).alloc (by simp; omega) (.cells #[.int .i64 x.f0, .int .u8 x.f1, .int .i64 0, .int .i64 0, .int .i64 0, .int .i64 0, .int .i64 0, .int .i64 0, .int .i64 0, .int .i64 0, .int .i64 0] 36)
  have e0 := alloc_old (o' := (.cells #[.int .i64 x.f0, .int .u8 x.f1, .int .i64 0, .int .i64 0, .int .i64 0, .int .i64 0, .int .i64 0, .int .i64 0, .int .i64 0, .int .i64 0, .int .i64 0] 36)) (alloc_old (o' := (.cells #[.int .i64 0, .int .u8 0, .int .i64 0, .int .i64 0, .int .i64 0, .int .i64 0, .int .i64 0, .int .i64 0, .int .i64 0, .int .i64 0, .int .i64 0] 36)) (World.alloc_heap_new w (.cells #[.int .i64 x.f0, .int .u8 x.f1, .int .i64 x.f2, .int .i64 x.f3, .int .i64 x.f4.f0, .int .i64 x.f4.f1, .int .i64 x.f5.f0, .int .i64 x.f5.f1, .int .i64 x.f6.f0, .int .i64 x.f6.f1, .int .i64 x.f7] 36)))
  have e1 := alloc_old (o' := (.cells #[.int .i64 x.f0, .int .u8 x.f1, .int .i64 0, .int .i64 0, .int .i64 0, .int .i64 0, .int .i64 0, .int .i64 0, .int .i64 0, .int .i64 0, .int .i64 0] 36)) (World.alloc_heap_new (w.alloc (.cells #[.int .i64 x.f0, .int .u8 x.f1, .int .i64 x.f2, .int .i64 x.f3, .int .i64 x.f4.f0, .int .i64 x.f4.f1, .int .i64 x.f5.f0, .int .i64 x.f5.f1, .int .i64 x.f6.f0, .int .i64 x.f6.f1, .int .i64 x.f7] 36)) (.cells #[.int .i64 0, .int .u8 0, .int .i64 0, .int .i64 0, .int .i64 0, .int .i64 0, .int .i64 0, .int .i64 0, .int .i64 0, .int .i64 0, .int .i64 0] 36))
  have e2 := World.alloc_heap_new ((w.alloc (.cells #[.int .i64 x.f0, .int .u8 x.f1, .int .i64 x.f2, .int .i64 x.f3, .int .i64 x.f4.f0, .int .i64 x.f4.f1, .int .i64 x.f5.f0, .int .i64 x.f5.f1, .int .i64 x.f6.f0, .int .i64 x.f6.f1, .int .i64 x.f7] 36)).alloc (.cells #[.int .i64 0, .int .u8 0, .int .i64 0, .int .i64 0, .int .i64 0, .int .i64 0, .int .i64 0, .int .i64 0, .int .i64 0, .int .i64 0, .int .i64 0] 36)) (.cells #[.int .i64 x.f0, .int .u8 x.f1, .int .i64 0, .int .i64 0, .int .i64 0, .int .i64 0, .int .i64 0, .int .i64 0, .int .i64 0, .int .i64 0, .int .i64 0] 36)
  simp only [World.size_alloc] at e1 e2
  go_enter Try.func50, Try.ntmps50
  go_upto_region 2 with fail
  generalize (((w.alloc (.cells #[.int .i64 x.f0, .int .u8 x.f1, .int .i64 x.f2, .int .i64 x.f3, .int .i64 x.f4.f0, .int .i64 x.f4.f1, .int .i64 x.f5.f0, .int .i64 x.f5.f1, .int .i64 x.f6.f0, .int .i64 x.f6.f1, .int .i64 x.f7] 36)).alloc (.cells #[.int .i64 0, .int .u8 0, .int .i64 0, .int .i64 0, .int .i64 0, .int .i64 0, .int .i64 0, .int .i64 0, .int .i64 0, .int .i64 0, .int .i64 0] 36)).alloc (.cells #[.int .i64 x.f0, .int .u8 x.f1, .int .i64 0, .int .i64 0, .int .i64 0, .int .i64 0, .int .i64 0, .int .i64 0, .int .i64 0, .int .i64 0, .int .i64 0] 36)) = W1 at *
  have H := hid (And.intro e0 (And.intro e1 (And.intro e2 hbel)))
  clear e0 e1 e2 hbel
  have y1 := blkCell H.out.1 1
  simp at y1
  go_wp2_with fail
  refine (weighsR_any x.f1 _).mono ?_
  rintro e W2 ⟨rfl, hb⟩
  have H' := hid (And.intro (heap_grow H.out.1 hb) (And.intro (heap_grow H.out.2.1 hb) (And.intro (heap_grow H.out.2.2.1 hb) (H.out.2.2.2.trans (hb.mono H.out.2.2.2.size)))))
  clear hb H y1
  have H := hid H'.out
  clear H'
  by_cases hw : 1 ≤ x.f1 ∧ x.f1 ≤ 5
  · rw [decide_eq_true hw]
    have z4 := blkCell H.out.2.2.1 4
    have z5 := blkCell H.out.2.2.1 5
    have g4 := blkFrozen H.out.2.2.1 4
    have g5 := blkFrozen H.out.2.2.1 5
    have y4 := blkCell H.out.1 4
    have y5 := blkCell H.out.1 5
    have y1 := blkCell H.out.1 1
    simp at z4 z5 y4 y5 y1
    go_upto_block 0 with fail
    clear z4 z5 g4 g5 y4 y5 y1
    have h3 : ((W2.setCell ⟨w.heap.size + 1 + 1, 4, none⟩ (.int .i64 x.f4.f0)).setCell ⟨w.heap.size + 1 + 1, 5, none⟩ (.int .i64 x.f4.f1)).heap[w.heap.size + 1 + 1]? = some (.cells #[.int .i64 x.f0, .int .u8 x.f1, .int .i64 0, .int .i64 0, .int .i64 x.f4.f0, .int .i64 x.f4.f1, .int .i64 0, .int .i64 0, .int .i64 0, .int .i64 0, .int .i64 0] 36 (0, 0)) := (set_at (set_at H.out.2.2.1 4 (.int .i64 x.f4.f0)) 5 (.int .i64 x.f4.f1))
    have H' := hid (And.intro (set_other (p := ⟨w.heap.size + 1 + 1, 5, none⟩) (v := .int .i64 x.f4.f1) (show w.heap.size ≠ w.heap.size + 1 + 1 by omega) (set_other (p := ⟨w.heap.size + 1 + 1, 4, none⟩) (v := .int .i64 x.f4.f0) (show w.heap.size ≠ w.heap.size + 1 + 1 by omega) H.out.1)) (And.intro (set_other (p := ⟨w.heap.size + 1 + 1, 5, none⟩) (v := .int .i64 x.f4.f1) (show w.heap.size + 1 ≠ w.heap.size + 1 + 1 by omega) (set_other (p := ⟨w.heap.size + 1 + 1, 4, none⟩) (v := .int .i64 x.f4.f0) (show w.heap.size + 1 ≠ w.heap.size + 1 + 1 by omega) H.out.2.1)) (And.intro h3 ((H.out.2.2.2.setCell (p := ⟨w.heap.size + 1 + 1, 4, none⟩) (by simp only []; omega) (.int .i64 x.f4.f0)).setCell (p := ⟨w.heap.size + 1 + 1, 5, none⟩) (by simp only []; omega) (.int .i64 x.f4.f1)))))
    clear h3 H
    have H := hid H'.out
    clear H'
    generalize ((W2.setCell ⟨w.heap.size + 1 + 1, 4, none⟩ (.int .i64 x.f4.f0)).setCell ⟨w.heap.size + 1 + 1, 5, none⟩ (.int .i64 x.f4.f1)) = W5 at *
    go_cut [3] from 17 to 43 (fun v3 wc => v3 = .pointer (some ⟨w.heap.size + 1 + 1, 0, none⟩) ∧ Hid (wc.heap[w.heap.size + 1]? = some (.cells #[.int .i64 0, .int .u8 0, .int .i64 0, .int .i64 0, .int .i64 0, .int .i64 0, .int .i64 0, .int .i64 0, .int .i64 0, .int .i64 0, .int .i64 0] 36 (0, 0)) ∧ wc.heap[w.heap.size + 1 + 1]? = some (.cells #[.int .i64 (bareR x).f0, .int .u8 (bareR x).f1, .int .i64 (bareR x).f2, .int .i64 (bareR x).f3, .int .i64 (bareR x).f4.f0, .int .i64 (bareR x).f4.f1, .int .i64 (bareR x).f5.f0, .int .i64 (bareR x).f5.f1, .int .i64 (bareR x).f6.f0, .int .i64 (bareR x).f6.f1, .int .i64 (bareR x).f7] 36 (0, 0)) ∧ Below w.heap.size w wc))
    case first =>
      rcases (show x.f1 = 1 ∨ x.f1 = 2 ∨ x.f1 = 4 ∨ x.f1 = 3 ∨ x.f1 = 5 by omega) with hk1 | hk2 | hk4 | hk3 | hk5
      · have f1 : (x.f1 == 1) = true := by simp [hk1]
        have f2 : (x.f1 == 2) = false := by simp [hk1]
        have f4 : (x.f1 == 4) = false := by simp [hk1]
        have f8 : (x.f1 == 8) = false := by simp [hk1]
        have f7 : (x.f1 == 7) = false := by simp [hk1]
        have HK := hid hk1
        clear hk1
        have y0 := blkCell H.out.1 0
        have y1 := blkCell H.out.1 1
        have y2 := blkCell H.out.1 2
        have y3 := blkCell H.out.1 3
        have y4 := blkCell H.out.1 4
        have y5 := blkCell H.out.1 5
        have y6 := blkCell H.out.1 6
        have y7 := blkCell H.out.1 7
        have y8 := blkCell H.out.1 8
        have y9 := blkCell H.out.1 9
        have y10 := blkCell H.out.1 10
        have z0 := blkCell H.out.2.2.1 0
        have g0 := blkFrozen H.out.2.2.1 0
        have z1 := blkCell H.out.2.2.1 1
        have g1 := blkFrozen H.out.2.2.1 1
        have z2 := blkCell H.out.2.2.1 2
        have g2 := blkFrozen H.out.2.2.1 2
        have z3 := blkCell H.out.2.2.1 3
        have g3 := blkFrozen H.out.2.2.1 3
        have z4 := blkCell H.out.2.2.1 4
        have g4 := blkFrozen H.out.2.2.1 4
        have z5 := blkCell H.out.2.2.1 5
        have g5 := blkFrozen H.out.2.2.1 5
        have z6 := blkCell H.out.2.2.1 6
        have g6 := blkFrozen H.out.2.2.1 6
        have z7 := blkCell H.out.2.2.1 7
        have g7 := blkFrozen H.out.2.2.1 7
        have z8 := blkCell H.out.2.2.1 8
        have g8 := blkFrozen H.out.2.2.1 8
        have z9 := blkCell H.out.2.2.1 9
        have g9 := blkFrozen H.out.2.2.1 9
        have z10 := blkCell H.out.2.2.1 10
        have g10 := blkFrozen H.out.2.2.1 10
        simp at y0 z0 y1 z1 y2 z2 y3 z3 y4 z4 y5 z5 y6 z6 y7 z7 y8 z8 y9 z9 y10 z10
        clear hk
        go_upto_region 6 with fail
        clear y0 z0 g0 y1 z1 g1 y2 z2 g2 y3 z3 g3 y4 z4 g4 y5 z5 g5 y6 z6 g6 y7 z7 g7 y8 z8 g8 y9 z9 g9 y10 z10 g10
        refine wp_flow9 [[], [0], [], [2], [0, 1], [4, 0, 1], [0, 1, 2, 3, 4, 5], [6, 0, 1, 2, 3, 4, 5]] 5
          (fun V => V.heap[w.heap.size]? = some (.cells #[.int .i64 x.f0, .int .u8 x.f1, .int .i64 x.f2, .int .i64 x.f3, .int .i64 x.f4.f0, .int .i64 x.f4.f1, .int .i64 x.f5.f0, .int .i64 x.f5.f1, .int .i64 x.f6.f0, .int .i64 x.f6.f1, .int .i64 x.f7] 36 (0, 0)) ∧ V.heap[w.heap.size + 1]? = some (.cells #[.int .i64 0, .int .u8 0, .int .i64 0, .int .i64 0, .int .i64 0, .int .i64 0, .int .i64 0, .int .i64 0, .int .i64 0, .int .i64 0, .int .i64 0] 36 (0, 0)) ∧ V.heap[w.heap.size + 1 + 1]? = some (.cells #[.int .i64 x.f0, .int .u8 x.f1, .int .i64 0, .int .i64 0, .int .i64 x.f4.f0, .int .i64 x.f4.f1, .int .i64 0, .int .i64 0, .int .i64 0, .int .i64 0, .int .i64 0] 36 (0, 0)) ∧ Below w.heap.size w V)
          (fun u V => ∃ V0, (V0.heap[w.heap.size]? = some (.cells #[.int .i64 x.f0, .int .u8 x.f1, .int .i64 x.f2, .int .i64 x.f3, .int .i64 x.f4.f0, .int .i64 x.f4.f1, .int .i64 x.f5.f0, .int .i64 x.f5.f1, .int .i64 x.f6.f0, .int .i64 x.f6.f1, .int .i64 x.f7] 36 (0, 0)) ∧ V0.heap[w.heap.size + 1]? = some (.cells #[.int .i64 0, .int .u8 0, .int .i64 0, .int .i64 0, .int .i64 0, .int .i64 0, .int .i64 0, .int .i64 0, .int .i64 0, .int .i64 0, .int .i64 0] 36 (0, 0)) ∧ V0.heap[w.heap.size + 1 + 1]? = some (.cells #[.int .i64 x.f0, .int .u8 x.f1, .int .i64 0, .int .i64 0, .int .i64 x.f4.f0, .int .i64 x.f4.f1, .int .i64 0, .int .i64 0, .int .i64 0, .int .i64 0, .int .i64 0] 36 (0, 0)) ∧ Below w.heap.size w V0) ∧ V = ((V0.setCell ⟨w.heap.size + 1 + 1, 6, none⟩ (.int .i64 x.f5.f0)).setCell ⟨w.heap.size + 1 + 1, 7, none⟩ (.int .i64 x.f5.f1)))
          { tmps := #[.agg #[.int .i64 x.f0, .int .u8 x.f1, .int .i64 x.f2, .int .i64 x.f3, .int .i64 x.f4.f0, .int .i64 x.f4.f1, .int .i64 x.f5.f0, .int .i64 x.f5.f1, .int .i64 x.f6.f0, .int .i64 x.f6.f1, .int .i64 x.f7], .pointer (some ⟨w.heap.size, 0, none⟩), .pointer (some ⟨w.heap.size + 1, 0, none⟩), .pointer (some ⟨(w.heap.size + 1 + 1), 0, none⟩), .pointer (some ⟨w.heap.size, 0, none⟩), .int .i64 x.f0, .pointer (some ⟨w.heap.size, 1, none⟩), .int .u8 x.f1, .agg #[.int .i64 x.f0, .int .u8 x.f1, .int .i64 0, .int .i64 0, .int .i64 0, .int .i64 0, .int .i64 0, .int .i64 0, .int .i64 0, .int .i64 0, .int .i64 0], .pointer (some ⟨w.heap.size, 1, none⟩), .int .u8 x.f1, .bool true, .pointer (some ⟨w.heap.size, 4, none⟩), .agg #[.int .i64 x.f4.f0, .int .i64 x.f4.f1], .pointer (some ⟨w.heap.size + 1 + 1, 4, none⟩), .pointer (some ⟨w.heap.size, 1, none⟩), .int .u8 x.f1, .bool true, .bool true, .pointer (some ⟨w.heap.size, 6, none⟩), .agg #[.int .i64 x.f5.f0, .int .i64 x.f5.f1], .pointer (some ⟨w.heap.size, 8, none⟩), .agg #[.int .i64 x.f6.f0, .int .i64 x.f6.f1], .pointer (some ⟨(w.heap.size + 1 + 1), 6, none⟩), undef, undef, undef, undef, undef, undef, undef, undef, undef, undef, undef, undef, undef, undef, undef, undef, undef, undef, undef, undef, undef], defers := [] }
          mixed (by kernel_rfl) rfl (Ahead.of3 19 24 rfl rfl (by kernel_rfl) rfl rfl) ?_ ?_ ?_ rfl ?_
        · exact ⟨H.out.1, H.out.2.1, H.out.2.2.1, H.out.2.2.2.drew⟩
        · refine EachOp3.ops rfl ⟨?_, ?_, ?_, ?_, ?_, trivial⟩
          · exact .inl ⟨by simp, FlowOp.val 19 _ rfl rfl fun V ⟨a1, a2, a3, hB_⟩ => by go_simp⟩
          · exact .inl ⟨by simp, FlowOp.val 20 _ rfl rfl fun V ⟨a1, a2, a3, hB_⟩ => by have y6 := blkCell a1 6; have y7 := blkCell a1 7; have y8 := blkCell a1 8; have y9 := blkCell a1 9; simp at y6 y7 y8 y9; go_simp⟩
          · exact .inr ⟨(LookOp.val 21 _ rfl rfl fun V ⟨a1, a2, a3, hB_⟩ => by go_simp).flow, fun u => (LookOp.val 21 _ rfl rfl fun V ⟨V0, ⟨a1, a2, a3, hB_⟩, hV_⟩ => by go_simp).flow⟩
          · exact .inr ⟨(LookOp.val 22 _ rfl rfl fun V ⟨a1, a2, a3, hB_⟩ => by have y6 := blkCell a1 6; have y7 := blkCell a1 7; have y8 := blkCell a1 8; have y9 := blkCell a1 9; simp at y6 y7 y8 y9; go_simp).flow, fun u => (LookOp.val 22 _ rfl rfl fun V ⟨V0, ⟨a1, a2, a3, hB_⟩, hV_⟩ => by subst hV_; have a1 := (set_other (p := ⟨w.heap.size + 1 + 1, 7, none⟩) (v := .int .i64 x.f5.f1) (show w.heap.size ≠ w.heap.size + 1 + 1 by omega) (set_other (p := ⟨w.heap.size + 1 + 1, 6, none⟩) (v := .int .i64 x.f5.f0) (show w.heap.size ≠ w.heap.size + 1 + 1 by omega) a1)); have y6 := blkCell a1 6; have y7 := blkCell a1 7; have y8 := blkCell a1 8; have y9 := blkCell a1 9; simp at y6 y7 y8 y9; go_simp).flow⟩
          · exact .inl ⟨by simp, FlowOp.val 23 _ rfl rfl fun V ⟨a1, a2, a3, hB_⟩ => by go_simp⟩
        · refine ⟨by rfl, rfl, fun V ⟨a1, a2, a3, hB_⟩ => ⟨_, ?_, V, ⟨a1, a2, a3, hB_⟩, rfl⟩⟩
          have z6 := blkCell a3 6
          have g6 := blkFrozen a3 6
          have z7 := blkCell a3 7
          have g7 := blkFrozen a3 7
          simp at z6 z7
          go_simp
        · rintro u V1 ⟨V, ⟨a1, a2, a3, hB_⟩, rfl⟩
          clear H
          have H := hid (And.intro a1 (And.intro a2 (And.intro a3 hB_)))
          clear a1 a2 a3 hB_
          have h3 : ((V.setCell ⟨w.heap.size + 1 + 1, 6, none⟩ (.int .i64 x.f5.f0)).setCell ⟨w.heap.size + 1 + 1, 7, none⟩ (.int .i64 x.f5.f1)).heap[w.heap.size + 1 + 1]? = some (.cells #[.int .i64 x.f0, .int .u8 x.f1, .int .i64 0, .int .i64 0, .int .i64 x.f4.f0, .int .i64 x.f4.f1, .int .i64 x.f5.f0, .int .i64 x.f5.f1, .int .i64 0, .int .i64 0, .int .i64 0] 36 (0, 0)) := (set_at (set_at H.out.2.2.1 6 (.int .i64 x.f5.f0)) 7 (.int .i64 x.f5.f1))
          have H' := hid (And.intro (set_other (p := ⟨w.heap.size + 1 + 1, 7, none⟩) (v := .int .i64 x.f5.f1) (show w.heap.size ≠ w.heap.size + 1 + 1 by omega) (set_other (p := ⟨w.heap.size + 1 + 1, 6, none⟩) (v := .int .i64 x.f5.f0) (show w.heap.size ≠ w.heap.size + 1 + 1 by omega) H.out.1)) (And.intro (set_other (p := ⟨w.heap.size + 1 + 1, 7, none⟩) (v := .int .i64 x.f5.f1) (show w.heap.size + 1 ≠ w.heap.size + 1 + 1 by omega) (set_other (p := ⟨w.heap.size + 1 + 1, 6, none⟩) (v := .int .i64 x.f5.f0) (show w.heap.size + 1 ≠ w.heap.size + 1 + 1 by omega) H.out.2.1)) (And.intro h3 ((H.out.2.2.2.setCell (p := ⟨w.heap.size + 1 + 1, 6, none⟩) (by simp only []; omega) (.int .i64 x.f5.f0)).setCell (p := ⟨w.heap.size + 1 + 1, 7, none⟩) (by simp only []; omega) (.int .i64 x.f5.f1)))))
          clear h3 H
          have H := hid H'.out
          clear H'
          generalize ((V.setCell ⟨w.heap.size + 1 + 1, 6, none⟩ (.int .i64 x.f5.f0)).setCell ⟨w.heap.size + 1 + 1, 7, none⟩ (.int .i64 x.f5.f1)) = V2 at *
          have z8 := blkCell H.out.2.2.1 8
          have g8 := blkFrozen H.out.2.2.1 8
          have z9 := blkCell H.out.2.2.1 9
          have g9 := blkFrozen H.out.2.2.1 9
          simp at z8 z9
          go_wp2
          have h3 : ((V2.setCell ⟨w.heap.size + 1 + 1, 8, none⟩ (.int .i64 x.f6.f0)).setCell ⟨w.heap.size + 1 + 1, 9, none⟩ (.int .i64 x.f6.f1)).heap[w.heap.size + 1 + 1]? = some (.cells #[.int .i64 x.f0, .int .u8 x.f1, .int .i64 0, .int .i64 0, .int .i64 x.f4.f0, .int .i64 x.f4.f1, .int .i64 x.f5.f0, .int .i64 x.f5.f1, .int .i64 x.f6.f0, .int .i64 x.f6.f1, .int .i64 0] 36 (0, 0)) := (set_at (set_at H.out.2.2.1 8 (.int .i64 x.f6.f0)) 9 (.int .i64 x.f6.f1))
          have H' := hid (And.intro (set_other (p := ⟨w.heap.size + 1 + 1, 9, none⟩) (v := .int .i64 x.f6.f1) (show w.heap.size ≠ w.heap.size + 1 + 1 by omega) (set_other (p := ⟨w.heap.size + 1 + 1, 8, none⟩) (v := .int .i64 x.f6.f0) (show w.heap.size ≠ w.heap.size + 1 + 1 by omega) H.out.1)) (And.intro (set_other (p := ⟨w.heap.size + 1 + 1, 9, none⟩) (v := .int .i64 x.f6.f1) (show w.heap.size + 1 ≠ w.heap.size + 1 + 1 by omega) (set_other (p := ⟨w.heap.size + 1 + 1, 8, none⟩) (v := .int .i64 x.f6.f0) (show w.heap.size + 1 ≠ w.heap.size + 1 + 1 by omega) H.out.2.1)) (And.intro h3 ((H.out.2.2.2.setCell (p := ⟨w.heap.size + 1 + 1, 8, none⟩) (by simp only []; omega) (.int .i64 x.f6.f0)).setCell (p := ⟨w.heap.size + 1 + 1, 9, none⟩) (by simp only []; omega) (.int .i64 x.f6.f1)))))
          clear h3 H
          have H := hid H'.out
          clear H'
          generalize ((V2.setCell ⟨w.heap.size + 1 + 1, 8, none⟩ (.int .i64 x.f6.f0)).setCell ⟨w.heap.size + 1 + 1, 9, none⟩ (.int .i64 x.f6.f1)) = V3 at *
          have hbr : bareR x = ⟨x.f0, x.f1, 0, 0, ⟨x.f4.f0, x.f4.f1⟩, ⟨x.f5.f0, x.f5.f1⟩, ⟨x.f6.f0, x.f6.f1⟩, 0⟩ := by unfold bareR z23; simp [HK.out]
          go_meet
          case rel =>
            rw [hbr]
            exact ⟨rfl, hid ⟨H.out.2.1, H.out.2.2.1, H.out.2.2.2⟩⟩
      · have f1 : (x.f1 == 1) = false := by simp [hk2]
        have f2 : (x.f1 == 2) = true := by simp [hk2]
        have f4 : (x.f1 == 4) = false := by simp [hk2]
        have f8 : (x.f1 == 8) = false := by simp [hk2]
        have f7 : (x.f1 == 7) = false := by simp [hk2]
        have HK := hid hk2
        clear hk2
        have y0 := blkCell H.out.1 0
        have y1 := blkCell H.out.1 1
        have y2 := blkCell H.out.1 2
        have y3 := blkCell H.out.1 3
        have y4 := blkCell H.out.1 4
        have y5 := blkCell H.out.1 5
        have y6 := blkCell H.out.1 6
        have y7 := blkCell H.out.1 7
        have y8 := blkCell H.out.1 8
        have y9 := blkCell H.out.1 9
        have y10 := blkCell H.out.1 10
        have z0 := blkCell H.out.2.2.1 0
        have g0 := blkFrozen H.out.2.2.1 0
        have z1 := blkCell H.out.2.2.1 1
        have g1 := blkFrozen H.out.2.2.1 1
        have z2 := blkCell H.out.2.2.1 2
        have g2 := blkFrozen H.out.2.2.1 2
        have z3 := blkCell H.out.2.2.1 3
        have g3 := blkFrozen H.out.2.2.1 3
        have z4 := blkCell H.out.2.2.1 4
        have g4 := blkFrozen H.out.2.2.1 4
        have z5 := blkCell H.out.2.2.1 5
        have g5 := blkFrozen H.out.2.2.1 5
        have z6 := blkCell H.out.2.2.1 6
        have g6 := blkFrozen H.out.2.2.1 6
        have z7 := blkCell H.out.2.2.1 7
        have g7 := blkFrozen H.out.2.2.1 7
        have z8 := blkCell H.out.2.2.1 8
        have g8 := blkFrozen H.out.2.2.1 8
        have z9 := blkCell H.out.2.2.1 9
        have g9 := blkFrozen H.out.2.2.1 9
        have z10 := blkCell H.out.2.2.1 10
        have g10 := blkFrozen H.out.2.2.1 10
        simp at y0 z0 y1 z1 y2 z2 y3 z3 y4 z4 y5 z5 y6 z6 y7 z7 y8 z8 y9 z9 y10 z10
        clear hk
        go_wp2
        have h3 : (W5.setCell ⟨w.heap.size + 1 + 1, 2, none⟩ (.int .i64 x.f2)).heap[w.heap.size + 1 + 1]? = some (.cells #[.int .i64 x.f0, .int .u8 x.f1, .int .i64 x.f2, .int .i64 0, .int .i64 x.f4.f0, .int .i64 x.f4.f1, .int .i64 0, .int .i64 0, .int .i64 0, .int .i64 0, .int .i64 0] 36 (0, 0)) := (set_at H.out.2.2.1 2 (.int .i64 x.f2))
        have H' := hid (And.intro (set_other (p := ⟨w.heap.size + 1 + 1, 2, none⟩) (v := .int .i64 x.f2) (show w.heap.size ≠ w.heap.size + 1 + 1 by omega) H.out.1) (And.intro (set_other (p := ⟨w.heap.size + 1 + 1, 2, none⟩) (v := .int .i64 x.f2) (show w.heap.size + 1 ≠ w.heap.size + 1 + 1 by omega) H.out.2.1) (And.intro h3 (H.out.2.2.2.setCell (p := ⟨w.heap.size + 1 + 1, 2, none⟩) (by simp only []; omega) (.int .i64 x.f2)))))
        clear h3 H
        have H := hid H'.out
        clear H'
        generalize (W5.setCell ⟨w.heap.size + 1 + 1, 2, none⟩ (.int .i64 x.f2)) = WS at *
        have hbr : bareR x = ⟨x.f0, x.f1, x.f2, 0, ⟨x.f4.f0, x.f4.f1⟩, ⟨0, 0⟩, ⟨0, 0⟩, 0⟩ := by unfold bareR z23; simp [HK.out]
        go_meet
        case rel =>
          rw [hbr]
          exact ⟨rfl, hid ⟨H.out.2.1, H.out.2.2.1, H.out.2.2.2⟩⟩
      · have f1 : (x.f1 == 1) = false := by simp [hk4]
        have f2 : (x.f1 == 2) = false := by simp [hk4]
        have f4 : (x.f1 == 4) = true := by simp [hk4]
        have f8 : (x.f1 == 8) = false := by simp [hk4]
        have f7 : (x.f1 == 7) = false := by simp [hk4]
        have HK := hid hk4
        clear hk4
        have y0 := blkCell H.out.1 0
        have y1 := blkCell H.out.1 1
        have y2 := blkCell H.out.1 2
        have y3 := blkCell H.out.1 3
        have y4 := blkCell H.out.1 4
        have y5 := blkCell H.out.1 5
        have y6 := blkCell H.out.1 6
        have y7 := blkCell H.out.1 7
        have y8 := blkCell H.out.1 8
        have y9 := blkCell H.out.1 9
        have y10 := blkCell H.out.1 10
        have z0 := blkCell H.out.2.2.1 0
        have g0 := blkFrozen H.out.2.2.1 0
        have z1 := blkCell H.out.2.2.1 1
        have g1 := blkFrozen H.out.2.2.1 1
        have z2 := blkCell H.out.2.2.1 2
        have g2 := blkFrozen H.out.2.2.1 2
        have z3 := blkCell H.out.2.2.1 3
        have g3 := blkFrozen H.out.2.2.1 3
        have z4 := blkCell H.out.2.2.1 4
        have g4 := blkFrozen H.out.2.2.1 4
        have z5 := blkCell H.out.2.2.1 5
        have g5 := blkFrozen H.out.2.2.1 5
        have z6 := blkCell H.out.2.2.1 6
        have g6 := blkFrozen H.out.2.2.1 6
        have z7 := blkCell H.out.2.2.1 7
        have g7 := blkFrozen H.out.2.2.1 7
        have z8 := blkCell H.out.2.2.1 8
        have g8 := blkFrozen H.out.2.2.1 8
        have z9 := blkCell H.out.2.2.1 9
        have g9 := blkFrozen H.out.2.2.1 9
        have z10 := blkCell H.out.2.2.1 10
        have g10 := blkFrozen H.out.2.2.1 10
        simp at y0 z0 y1 z1 y2 z2 y3 z3 y4 z4 y5 z5 y6 z6 y7 z7 y8 z8 y9 z9 y10 z10
        clear hk
        go_wp2
        have h3 : (W5.setCell ⟨w.heap.size + 1 + 1, 3, none⟩ (.int .i64 x.f3)).heap[w.heap.size + 1 + 1]? = some (.cells #[.int .i64 x.f0, .int .u8 x.f1, .int .i64 0, .int .i64 x.f3, .int .i64 x.f4.f0, .int .i64 x.f4.f1, .int .i64 0, .int .i64 0, .int .i64 0, .int .i64 0, .int .i64 0] 36 (0, 0)) := (set_at H.out.2.2.1 3 (.int .i64 x.f3))
        have H' := hid (And.intro (set_other (p := ⟨w.heap.size + 1 + 1, 3, none⟩) (v := .int .i64 x.f3) (show w.heap.size ≠ w.heap.size + 1 + 1 by omega) H.out.1) (And.intro (set_other (p := ⟨w.heap.size + 1 + 1, 3, none⟩) (v := .int .i64 x.f3) (show w.heap.size + 1 ≠ w.heap.size + 1 + 1 by omega) H.out.2.1) (And.intro h3 (H.out.2.2.2.setCell (p := ⟨w.heap.size + 1 + 1, 3, none⟩) (by simp only []; omega) (.int .i64 x.f3)))))
        clear h3 H
        have H := hid H'.out
        clear H'
        generalize (W5.setCell ⟨w.heap.size + 1 + 1, 3, none⟩ (.int .i64 x.f3)) = WS at *
        have hbr : bareR x = ⟨x.f0, x.f1, 0, x.f3, ⟨x.f4.f0, x.f4.f1⟩, ⟨0, 0⟩, ⟨0, 0⟩, 0⟩ := by unfold bareR z23; simp [HK.out]
        go_meet
        case rel =>
          rw [hbr]
          exact ⟨rfl, hid ⟨H.out.2.1, H.out.2.2.1, H.out.2.2.2⟩⟩
      · have f1 : (x.f1 == 1) = false := by simp [hk3]
        have f2 : (x.f1 == 2) = false := by simp [hk3]
        have f4 : (x.f1 == 4) = false := by simp [hk3]
        have f8 : (x.f1 == 8) = false := by simp [hk3]
        have f7 : (x.f1 == 7) = false := by simp [hk3]
        have HK := hid hk3
        clear hk3
        clear hk
        go_wp2
        have hbr : bareR x = ⟨x.f0, x.f1, 0, 0, ⟨x.f4.f0, x.f4.f1⟩, ⟨0, 0⟩, ⟨0, 0⟩, 0⟩ := by unfold bareR z23; simp [HK.out]
        go_meet
        case rel =>
          rw [hbr]
          exact ⟨rfl, hid ⟨H.out.2.1, H.out.2.2.1, H.out.2.2.2⟩⟩
      · have f1 : (x.f1 == 1) = false := by simp [hk5]
        have f2 : (x.f1 == 2) = false := by simp [hk5]
        have f4 : (x.f1 == 4) = false := by simp [hk5]
        have f8 : (x.f1 == 8) = false := by simp [hk5]
        have f7 : (x.f1 == 7) = false := by simp [hk5]
        have HK := hid hk5
        clear hk5
        clear hk
        go_wp2
        have hbr : bareR x = ⟨x.f0, x.f1, 0, 0, ⟨x.f4.f0, x.f4.f1⟩, ⟨0, 0⟩, ⟨0, 0⟩, 0⟩ := by unfold bareR z23; simp [HK.out]
        go_meet
        case rel =>
          rw [hbr]
          exact ⟨rfl, hid ⟨H.out.2.1, H.out.2.2.1, H.out.2.2.2⟩⟩
    case rest =>
      obtain ⟨rfl, hcut⟩ := hcut
      have HZ := hid hcut.out
      clear hcut
      obtain ⟨b, hbr⟩ : ∃ b, bareR x = b := ⟨_, rfl⟩
      have HBR := hid hbr
      rw [hbr] at HZ
      clear hbr
      have y0 := blkCell HZ.out.2.1 0
      have z0 := blkCell HZ.out.1 0
      have g0 := blkFrozen HZ.out.1 0
      have y1 := blkCell HZ.out.2.1 1
      have z1 := blkCell HZ.out.1 1
      have g1 := blkFrozen HZ.out.1 1
      have y2 := blkCell HZ.out.2.1 2
      have z2 := blkCell HZ.out.1 2
      have g2 := blkFrozen HZ.out.1 2
      have y3 := blkCell HZ.out.2.1 3
      have z3 := blkCell HZ.out.1 3
      have g3 := blkFrozen HZ.out.1 3
      have y4 := blkCell HZ.out.2.1 4
      have z4 := blkCell HZ.out.1 4
      have g4 := blkFrozen HZ.out.1 4
      have y5 := blkCell HZ.out.2.1 5
      have z5 := blkCell HZ.out.1 5
      have g5 := blkFrozen HZ.out.1 5
      have y6 := blkCell HZ.out.2.1 6
      have z6 := blkCell HZ.out.1 6
      have g6 := blkFrozen HZ.out.1 6
      have y7 := blkCell HZ.out.2.1 7
      have z7 := blkCell HZ.out.1 7
      have g7 := blkFrozen HZ.out.1 7
      have y8 := blkCell HZ.out.2.1 8
      have z8 := blkCell HZ.out.1 8
      have g8 := blkFrozen HZ.out.1 8
      have y9 := blkCell HZ.out.2.1 9
      have z9 := blkCell HZ.out.1 9
      have g9 := blkFrozen HZ.out.1 9
      have y10 := blkCell HZ.out.2.1 10
      have z10 := blkCell HZ.out.1 10
      have g10 := blkFrozen HZ.out.1 10
      simp at y0 z0 y1 z1 y2 z2 y3 z3 y4 z4 y5 z5 y6 z6 y7 z7 y8 z8 y9 z9 y10 z10
      go_wp2
      have hz := st11_same HZ.out.1 (.int .i64 b.f0) (.int .u8 b.f1) (.int .i64 b.f2) (.int .i64 b.f3) (.int .i64 b.f4.f0) (.int .i64 b.f4.f1) (.int .i64 b.f5.f0) (.int .i64 b.f5.f1) (.int .i64 b.f6.f0) (.int .i64 b.f6.f1) (.int .i64 b.f7)
      have hb := st11_below HZ.out.2.2 (show w.heap.size ≤ w.heap.size + 1 by omega) (.int .i64 b.f0) (.int .u8 b.f1) (.int .i64 b.f2) (.int .i64 b.f3) (.int .i64 b.f4.f0) (.int .i64 b.f4.f1) (.int .i64 b.f5.f0) (.int .i64 b.f5.f1) (.int .i64 b.f6.f0) (.int .i64 b.f6.f1) (.int .i64 b.f7)
      generalize (((((((((((wc.setCell ⟨w.heap.size + 1, 0, none⟩ (.int .i64 b.f0)).setCell ⟨w.heap.size + 1, 1, none⟩ (.int .u8 b.f1)).setCell ⟨w.heap.size + 1, 2, none⟩ (.int .i64 b.f2)).setCell ⟨w.heap.size + 1, 3, none⟩ (.int .i64 b.f3)).setCell ⟨w.heap.size + 1, 4, none⟩ (.int .i64 b.f4.f0)).setCell ⟨w.heap.size + 1, 5, none⟩ (.int .i64 b.f4.f1)).setCell ⟨w.heap.size + 1, 6, none⟩ (.int .i64 b.f5.f0)).setCell ⟨w.heap.size + 1, 7, none⟩ (.int .i64 b.f5.f1)).setCell ⟨w.heap.size + 1, 8, none⟩ (.int .i64 b.f6.f0)).setCell ⟨w.heap.size + 1, 9, none⟩ (.int .i64 b.f6.f1)).setCell ⟨w.heap.size + 1, 10, none⟩ (.int .i64 b.f7)) = VZ at *
      have q0 := blkCell hz 0
      have q1 := blkCell hz 1
      have q2 := blkCell hz 2
      have q3 := blkCell hz 3
      have q4 := blkCell hz 4
      have q5 := blkCell hz 5
      have q6 := blkCell hz 6
      have q7 := blkCell hz 7
      have q8 := blkCell hz 8
      have q9 := blkCell hz 9
      have q10 := blkCell hz 10
      simp at q0 q1 q2 q3 q4 q5 q6 q7 q8 q9 q10
      refine bodyPost_ret (v := .agg #[.int .i64 b.f0, .int .u8 b.f1, .int .i64 b.f2, .int .i64 b.f3, .int .i64 b.f4.f0, .int .i64 b.f4.f1, .int .i64 b.f5.f0, .int .i64 b.f5.f1, .int .i64 b.f6.f0, .int .i64 b.f6.f1, .int .i64 b.f7]) (by simp [results, Try.results50, go_sem, q0, q1, q2, q3, q4, q5, q6, q7, q8, q9, q10]) rfl ⟨by rw [HBR.out], hb⟩
  · rw [decide_eq_false hw]
    have y1 := blkCell H.out.1 1
    simp at y1
    go_upto_block 0 with fail
    clear y1
    generalize W2 = W5 at *
    go_cut [3] from 17 to 43 (fun v3 wc => v3 = .pointer (some ⟨w.heap.size + 1 + 1, 0, none⟩) ∧ Hid (wc.heap[w.heap.size + 1]? = some (.cells #[.int .i64 0, .int .u8 0, .int .i64 0, .int .i64 0, .int .i64 0, .int .i64 0, .int .i64 0, .int .i64 0, .int .i64 0, .int .i64 0, .int .i64 0] 36 (0, 0)) ∧ wc.heap[w.heap.size + 1 + 1]? = some (.cells #[.int .i64 (bareR x).f0, .int .u8 (bareR x).f1, .int .i64 (bareR x).f2, .int .i64 (bareR x).f3, .int .i64 (bareR x).f4.f0, .int .i64 (bareR x).f4.f1, .int .i64 (bareR x).f5.f0, .int .i64 (bareR x).f5.f1, .int .i64 (bareR x).f6.f0, .int .i64 (bareR x).f6.f1, .int .i64 (bareR x).f7] 36 (0, 0)) ∧ Below w.heap.size w wc))
    case first =>
      rcases (show x.f1 = 6 ∨ x.f1 = 7 ∨ x.f1 = 8 by omega) with hk6 | hk7 | hk8
      · have f1 : (x.f1 == 1) = false := by simp [hk6]
        have f2 : (x.f1 == 2) = false := by simp [hk6]
        have f4 : (x.f1 == 4) = false := by simp [hk6]
        have f8 : (x.f1 == 8) = false := by simp [hk6]
        have f7 : (x.f1 == 7) = false := by simp [hk6]
        have HK := hid hk6
        clear hk6
        clear hk
        go_wp2
        have hbr : bareR x = ⟨x.f0, x.f1, 0, 0, ⟨0, 0⟩, ⟨0, 0⟩, ⟨0, 0⟩, 0⟩ := by unfold bareR z23; simp [HK.out]
        go_meet
        case rel =>
          rw [hbr]
          exact ⟨rfl, hid ⟨H.out.2.1, H.out.2.2.1, H.out.2.2.2⟩⟩
      · have f1 : (x.f1 == 1) = false := by simp [hk7]
        have f2 : (x.f1 == 2) = false := by simp [hk7]
        have f4 : (x.f1 == 4) = false := by simp [hk7]
        have f8 : (x.f1 == 8) = false := by simp [hk7]
        have f7 : (x.f1 == 7) = true := by simp [hk7]
        have HK := hid hk7
        clear hk7
        have y0 := blkCell H.out.1 0
        have y1 := blkCell H.out.1 1
        have y2 := blkCell H.out.1 2
        have y3 := blkCell H.out.1 3
        have y4 := blkCell H.out.1 4
        have y5 := blkCell H.out.1 5
        have y6 := blkCell H.out.1 6
        have y7 := blkCell H.out.1 7
        have y8 := blkCell H.out.1 8
        have y9 := blkCell H.out.1 9
        have y10 := blkCell H.out.1 10
        have z0 := blkCell H.out.2.2.1 0
        have g0 := blkFrozen H.out.2.2.1 0
        have z1 := blkCell H.out.2.2.1 1
        have g1 := blkFrozen H.out.2.2.1 1
        have z2 := blkCell H.out.2.2.1 2
        have g2 := blkFrozen H.out.2.2.1 2
        have z3 := blkCell H.out.2.2.1 3
        have g3 := blkFrozen H.out.2.2.1 3
        have z4 := blkCell H.out.2.2.1 4
        have g4 := blkFrozen H.out.2.2.1 4
        have z5 := blkCell H.out.2.2.1 5
        have g5 := blkFrozen H.out.2.2.1 5
        have z6 := blkCell H.out.2.2.1 6
        have g6 := blkFrozen H.out.2.2.1 6
        have z7 := blkCell H.out.2.2.1 7
        have g7 := blkFrozen H.out.2.2.1 7
        have z8 := blkCell H.out.2.2.1 8
        have g8 := blkFrozen H.out.2.2.1 8
        have z9 := blkCell H.out.2.2.1 9
        have g9 := blkFrozen H.out.2.2.1 9
        have z10 := blkCell H.out.2.2.1 10
        have g10 := blkFrozen H.out.2.2.1 10
        simp at y0 z0 y1 z1 y2 z2 y3 z3 y4 z4 y5 z5 y6 z6 y7 z7 y8 z8 y9 z9 y10 z10
        clear hk
        go_upto_region 13 with fail
        clear y0 z0 g0 y1 z1 g1 y2 z2 g2 y3 z3 g3 y4 z4 g4 y5 z5 g5 y6 z6 g6 y7 z7 g7 y8 z8 g8 y9 z9 g9 y10 z10 g10
        refine wp_flow9 [[], [0], [], [2], [0, 1], [4, 0, 1], [0, 1, 2, 3, 4, 5], [6, 0, 1, 2, 3, 4, 5]] 5
          (fun V => V.heap[w.heap.size]? = some (.cells #[.int .i64 x.f0, .int .u8 x.f1, .int .i64 x.f2, .int .i64 x.f3, .int .i64 x.f4.f0, .int .i64 x.f4.f1, .int .i64 x.f5.f0, .int .i64 x.f5.f1, .int .i64 x.f6.f0, .int .i64 x.f6.f1, .int .i64 x.f7] 36 (0, 0)) ∧ V.heap[w.heap.size + 1]? = some (.cells #[.int .i64 0, .int .u8 0, .int .i64 0, .int .i64 0, .int .i64 0, .int .i64 0, .int .i64 0, .int .i64 0, .int .i64 0, .int .i64 0, .int .i64 0] 36 (0, 0)) ∧ V.heap[w.heap.size + 1 + 1]? = some (.cells #[.int .i64 x.f0, .int .u8 x.f1, .int .i64 0, .int .i64 0, .int .i64 0, .int .i64 0, .int .i64 0, .int .i64 0, .int .i64 0, .int .i64 0, .int .i64 0] 36 (0, 0)) ∧ Below w.heap.size w V)
          (fun u V => ∃ V0, (V0.heap[w.heap.size]? = some (.cells #[.int .i64 x.f0, .int .u8 x.f1, .int .i64 x.f2, .int .i64 x.f3, .int .i64 x.f4.f0, .int .i64 x.f4.f1, .int .i64 x.f5.f0, .int .i64 x.f5.f1, .int .i64 x.f6.f0, .int .i64 x.f6.f1, .int .i64 x.f7] 36 (0, 0)) ∧ V0.heap[w.heap.size + 1]? = some (.cells #[.int .i64 0, .int .u8 0, .int .i64 0, .int .i64 0, .int .i64 0, .int .i64 0, .int .i64 0, .int .i64 0, .int .i64 0, .int .i64 0, .int .i64 0] 36 (0, 0)) ∧ V0.heap[w.heap.size + 1 + 1]? = some (.cells #[.int .i64 x.f0, .int .u8 x.f1, .int .i64 0, .int .i64 0, .int .i64 0, .int .i64 0, .int .i64 0, .int .i64 0, .int .i64 0, .int .i64 0, .int .i64 0] 36 (0, 0)) ∧ Below w.heap.size w V0) ∧ V = (V0.setCell ⟨w.heap.size + 1 + 1, 3, none⟩ (.int .i64 x.f3)))
          { tmps := #[.agg #[.int .i64 x.f0, .int .u8 x.f1, .int .i64 x.f2, .int .i64 x.f3, .int .i64 x.f4.f0, .int .i64 x.f4.f1, .int .i64 x.f5.f0, .int .i64 x.f5.f1, .int .i64 x.f6.f0, .int .i64 x.f6.f1, .int .i64 x.f7], .pointer (some ⟨w.heap.size, 0, none⟩), .pointer (some ⟨w.heap.size + 1, 0, none⟩), .pointer (some ⟨(w.heap.size + 1 + 1), 0, none⟩), .pointer (some ⟨w.heap.size, 0, none⟩), .int .i64 x.f0, .pointer (some ⟨w.heap.size, 1, none⟩), .int .u8 x.f1, .agg #[.int .i64 x.f0, .int .u8 x.f1, .int .i64 0, .int .i64 0, .int .i64 0, .int .i64 0, .int .i64 0, .int .i64 0, .int .i64 0, .int .i64 0, .int .i64 0], .pointer (some ⟨w.heap.size, 1, none⟩), .int .u8 x.f1, .bool false, undef, undef, undef, .pointer (some ⟨w.heap.size, 1, none⟩), .int .u8 x.f1, .bool false, .bool false, undef, undef, undef, undef, undef, undef, .bool false, .bool false, undef, undef, undef, .bool false, .bool false, .bool false, undef, undef, undef, .bool true, .bool true, .pointer (some ⟨w.heap.size, 3, none⟩), .int .i64 x.f3, .pointer (some ⟨w.heap.size, 10, none⟩), .int .i64 x.f7, .pointer (some ⟨(w.heap.size + 1 + 1), 3, none⟩), undef, undef], defers := [] }
          mixed (by kernel_rfl) rfl (Ahead.of3 38 43 rfl rfl (by kernel_rfl) rfl rfl) ?_ ?_ ?_ rfl ?_
        · exact ⟨H.out.1, H.out.2.1, H.out.2.2.1, H.out.2.2.2.drew⟩
        · refine EachOp3.ops rfl ⟨?_, ?_, ?_, ?_, ?_, trivial⟩
          · exact .inl ⟨by simp, FlowOp.val 38 _ rfl rfl fun V ⟨a1, a2, a3, hB_⟩ => by go_simp⟩
          · exact .inl ⟨by simp, FlowOp.val 39 _ rfl rfl fun V ⟨a1, a2, a3, hB_⟩ => by have y3 := blkCell a1 3; have y10 := blkCell a1 10; simp at y3 y10; go_simp⟩
          · exact .inr ⟨(LookOp.val 40 _ rfl rfl fun V ⟨a1, a2, a3, hB_⟩ => by go_simp).flow, fun u => (LookOp.val 40 _ rfl rfl fun V ⟨V0, ⟨a1, a2, a3, hB_⟩, hV_⟩ => by go_simp).flow⟩
          · exact .inr ⟨(LookOp.val 41 _ rfl rfl fun V ⟨a1, a2, a3, hB_⟩ => by have y3 := blkCell a1 3; have y10 := blkCell a1 10; simp at y3 y10; go_simp).flow, fun u => (LookOp.val 41 _ rfl rfl fun V ⟨V0, ⟨a1, a2, a3, hB_⟩, hV_⟩ => by subst hV_; have a1 := (set_other (p := ⟨w.heap.size + 1 + 1, 3, none⟩) (v := .int .i64 x.f3) (show w.heap.size ≠ w.heap.size + 1 + 1 by omega) a1); have y3 := blkCell a1 3; have y10 := blkCell a1 10; simp at y3 y10; go_simp).flow⟩
          · exact .inl ⟨by simp, FlowOp.val 42 _ rfl rfl fun V ⟨a1, a2, a3, hB_⟩ => by go_simp⟩
        · refine ⟨by rfl, rfl, fun V ⟨a1, a2, a3, hB_⟩ => ⟨_, ?_, V, ⟨a1, a2, a3, hB_⟩, rfl⟩⟩
          have z3 := blkCell a3 3
          have g3 := blkFrozen a3 3
          simp at z3
          go_simp
        · rintro u V1 ⟨V, ⟨a1, a2, a3, hB_⟩, rfl⟩
          clear H
          have H := hid (And.intro a1 (And.intro a2 (And.intro a3 hB_)))
          clear a1 a2 a3 hB_
          have h3 : (V.setCell ⟨w.heap.size + 1 + 1, 3, none⟩ (.int .i64 x.f3)).heap[w.heap.size + 1 + 1]? = some (.cells #[.int .i64 x.f0, .int .u8 x.f1, .int .i64 0, .int .i64 x.f3, .int .i64 0, .int .i64 0, .int .i64 0, .int .i64 0, .int .i64 0, .int .i64 0, .int .i64 0] 36 (0, 0)) := (set_at H.out.2.2.1 3 (.int .i64 x.f3))
          have H' := hid (And.intro (set_other (p := ⟨w.heap.size + 1 + 1, 3, none⟩) (v := .int .i64 x.f3) (show w.heap.size ≠ w.heap.size + 1 + 1 by omega) H.out.1) (And.intro (set_other (p := ⟨w.heap.size + 1 + 1, 3, none⟩) (v := .int .i64 x.f3) (show w.heap.size + 1 ≠ w.heap.size + 1 + 1 by omega) H.out.2.1) (And.intro h3 (H.out.2.2.2.setCell (p := ⟨w.heap.size + 1 + 1, 3, none⟩) (by simp only []; omega) (.int .i64 x.f3)))))
          clear h3 H
          have H := hid H'.out
          clear H'
          generalize (V.setCell ⟨w.heap.size + 1 + 1, 3, none⟩ (.int .i64 x.f3)) = V2 at *
          have z10 := blkCell H.out.2.2.1 10
          have g10 := blkFrozen H.out.2.2.1 10
          simp at z10
          go_wp2
          have h3 : (V2.setCell ⟨w.heap.size + 1 + 1, 10, none⟩ (.int .i64 x.f7)).heap[w.heap.size + 1 + 1]? = some (.cells #[.int .i64 x.f0, .int .u8 x.f1, .int .i64 0, .int .i64 x.f3, .int .i64 0, .int .i64 0, .int .i64 0, .int .i64 0, .int .i64 0, .int .i64 0, .int .i64 x.f7] 36 (0, 0)) := (set_at H.out.2.2.1 10 (.int .i64 x.f7))
          have H' := hid (And.intro (set_other (p := ⟨w.heap.size + 1 + 1, 10, none⟩) (v := .int .i64 x.f7) (show w.heap.size ≠ w.heap.size + 1 + 1 by omega) H.out.1) (And.intro (set_other (p := ⟨w.heap.size + 1 + 1, 10, none⟩) (v := .int .i64 x.f7) (show w.heap.size + 1 ≠ w.heap.size + 1 + 1 by omega) H.out.2.1) (And.intro h3 (H.out.2.2.2.setCell (p := ⟨w.heap.size + 1 + 1, 10, none⟩) (by simp only []; omega) (.int .i64 x.f7)))))
          clear h3 H
          have H := hid H'.out
          clear H'
          generalize (V2.setCell ⟨w.heap.size + 1 + 1, 10, none⟩ (.int .i64 x.f7)) = V3 at *
          have hbr : bareR x = ⟨x.f0, x.f1, 0, x.f3, ⟨0, 0⟩, ⟨0, 0⟩, ⟨0, 0⟩, x.f7⟩ := by unfold bareR z23; simp [HK.out]
          go_meet
          case rel =>
            rw [hbr]
            exact ⟨rfl, hid ⟨H.out.2.1, H.out.2.2.1, H.out.2.2.2⟩⟩
      · have f1 : (x.f1 == 1) = false := by simp [hk8]
        have f2 : (x.f1 == 2) = false := by simp [hk8]
        have f4 : (x.f1 == 4) = false := by simp [hk8]
        have f8 : (x.f1 == 8) = true := by simp [hk8]
        have f7 : (x.f1 == 7) = false := by simp [hk8]
        have HK := hid hk8
        clear hk8
        have y0 := blkCell H.out.1 0
        have y1 := blkCell H.out.1 1
        have y2 := blkCell H.out.1 2
        have y3 := blkCell H.out.1 3
        have y4 := blkCell H.out.1 4
        have y5 := blkCell H.out.1 5
        have y6 := blkCell H.out.1 6
        have y7 := blkCell H.out.1 7
        have y8 := blkCell H.out.1 8
        have y9 := blkCell H.out.1 9
        have y10 := blkCell H.out.1 10
        have z0 := blkCell H.out.2.2.1 0
        have g0 := blkFrozen H.out.2.2.1 0
        have z1 := blkCell H.out.2.2.1 1
        have g1 := blkFrozen H.out.2.2.1 1
        have z2 := blkCell H.out.2.2.1 2
        have g2 := blkFrozen H.out.2.2.1 2
        have z3 := blkCell H.out.2.2.1 3
        have g3 := blkFrozen H.out.2.2.1 3
        have z4 := blkCell H.out.2.2.1 4
        have g4 := blkFrozen H.out.2.2.1 4
        have z5 := blkCell H.out.2.2.1 5
        have g5 := blkFrozen H.out.2.2.1 5
        have z6 := blkCell H.out.2.2.1 6
        have g6 := blkFrozen H.out.2.2.1 6
        have z7 := blkCell H.out.2.2.1 7
        have g7 := blkFrozen H.out.2.2.1 7
        have z8 := blkCell H.out.2.2.1 8
        have g8 := blkFrozen H.out.2.2.1 8
        have z9 := blkCell H.out.2.2.1 9
        have g9 := blkFrozen H.out.2.2.1 9
        have z10 := blkCell H.out.2.2.1 10
        have g10 := blkFrozen H.out.2.2.1 10
        simp at y0 z0 y1 z1 y2 z2 y3 z3 y4 z4 y5 z5 y6 z6 y7 z7 y8 z8 y9 z9 y10 z10
        clear hk
        go_wp2
        have h3 : (W5.setCell ⟨w.heap.size + 1 + 1, 3, none⟩ (.int .i64 x.f3)).heap[w.heap.size + 1 + 1]? = some (.cells #[.int .i64 x.f0, .int .u8 x.f1, .int .i64 0, .int .i64 x.f3, .int .i64 0, .int .i64 0, .int .i64 0, .int .i64 0, .int .i64 0, .int .i64 0, .int .i64 0] 36 (0, 0)) := (set_at H.out.2.2.1 3 (.int .i64 x.f3))
        have H' := hid (And.intro (set_other (p := ⟨w.heap.size + 1 + 1, 3, none⟩) (v := .int .i64 x.f3) (show w.heap.size ≠ w.heap.size + 1 + 1 by omega) H.out.1) (And.intro (set_other (p := ⟨w.heap.size + 1 + 1, 3, none⟩) (v := .int .i64 x.f3) (show w.heap.size + 1 ≠ w.heap.size + 1 + 1 by omega) H.out.2.1) (And.intro h3 (H.out.2.2.2.setCell (p := ⟨w.heap.size + 1 + 1, 3, none⟩) (by simp only []; omega) (.int .i64 x.f3)))))
        clear h3 H
        have H := hid H'.out
        clear H'
        generalize (W5.setCell ⟨w.heap.size + 1 + 1, 3, none⟩ (.int .i64 x.f3)) = WS at *
        have hbr : bareR x = ⟨x.f0, x.f1, 0, x.f3, ⟨0, 0⟩, ⟨0, 0⟩, ⟨0, 0⟩, 0⟩ := by unfold bareR z23; simp [HK.out]
        go_meet
        case rel =>
          rw [hbr]
          exact ⟨rfl, hid ⟨H.out.2.1, H.out.2.2.1, H.out.2.2.2⟩⟩
    case rest =>
      obtain ⟨rfl, hcut⟩ := hcut
      have HZ := hid hcut.out
      clear hcut
      obtain ⟨b, hbr⟩ : ∃ b, bareR x = b := ⟨_, rfl⟩
      have HBR := hid hbr
      rw [hbr] at HZ
      clear hbr
      have y0 := blkCell HZ.out.2.1 0
      have z0 := blkCell HZ.out.1 0
      have g0 := blkFrozen HZ.out.1 0
      have y1 := blkCell HZ.out.2.1 1
      have z1 := blkCell HZ.out.1 1
      have g1 := blkFrozen HZ.out.1 1
      have y2 := blkCell HZ.out.2.1 2
      have z2 := blkCell HZ.out.1 2
      have g2 := blkFrozen HZ.out.1 2
      have y3 := blkCell HZ.out.2.1 3
      have z3 := blkCell HZ.out.1 3
      have g3 := blkFrozen HZ.out.1 3
      have y4 := blkCell HZ.out.2.1 4
      have z4 := blkCell HZ.out.1 4
      have g4 := blkFrozen HZ.out.1 4
      have y5 := blkCell HZ.out.2.1 5
      have z5 := blkCell HZ.out.1 5
      have g5 := blkFrozen HZ.out.1 5
      have y6 := blkCell HZ.out.2.1 6
      have z6 := blkCell HZ.out.1 6
      have g6 := blkFrozen HZ.out.1 6
      have y7 := blkCell HZ.out.2.1 7
      have z7 := blkCell HZ.out.1 7
      have g7 := blkFrozen HZ.out.1 7
      have y8 := blkCell HZ.out.2.1 8
      have z8 := blkCell HZ.out.1 8
      have g8 := blkFrozen HZ.out.1 8
      have y9 := blkCell HZ.out.2.1 9
      have z9 := blkCell HZ.out.1 9
      have g9 := blkFrozen HZ.out.1 9
      have y10 := blkCell HZ.out.2.1 10
      have z10 := blkCell HZ.out.1 10
      have g10 := blkFrozen HZ.out.1 10
      simp at y0 z0 y1 z1 y2 z2 y3 z3 y4 z4 y5 z5 y6 z6 y7 z7 y8 z8 y9 z9 y10 z10
      go_wp2
      have hz := st11_same HZ.out.1 (.int .i64 b.f0) (.int .u8 b.f1) (.int .i64 b.f2) (.int .i64 b.f3) (.int .i64 b.f4.f0) (.int .i64 b.f4.f1) (.int .i64 b.f5.f0) (.int .i64 b.f5.f1) (.int .i64 b.f6.f0) (.int .i64 b.f6.f1) (.int .i64 b.f7)
      have hb := st11_below HZ.out.2.2 (show w.heap.size ≤ w.heap.size + 1 by omega) (.int .i64 b.f0) (.int .u8 b.f1) (.int .i64 b.f2) (.int .i64 b.f3) (.int .i64 b.f4.f0) (.int .i64 b.f4.f1) (.int .i64 b.f5.f0) (.int .i64 b.f5.f1) (.int .i64 b.f6.f0) (.int .i64 b.f6.f1) (.int .i64 b.f7)
      generalize (((((((((((wc.setCell ⟨w.heap.size + 1, 0, none⟩ (.int .i64 b.f0)).setCell ⟨w.heap.size + 1, 1, none⟩ (.int .u8 b.f1)).setCell ⟨w.heap.size + 1, 2, none⟩ (.int .i64 b.f2)).setCell ⟨w.heap.size + 1, 3, none⟩ (.int .i64 b.f3)).setCell ⟨w.heap.size + 1, 4, none⟩ (.int .i64 b.f4.f0)).setCell ⟨w.heap.size + 1, 5, none⟩ (.int .i64 b.f4.f1)).setCell ⟨w.heap.size + 1, 6, none⟩ (.int .i64 b.f5.f0)).setCell ⟨w.heap.size + 1, 7, none⟩ (.int .i64 b.f5.f1)).setCell ⟨w.heap.size + 1, 8, none⟩ (.int .i64 b.f6.f0)).setCell ⟨w.heap.size + 1, 9, none⟩ (.int .i64 b.f6.f1)).setCell ⟨w.heap.size + 1, 10, none⟩ (.int .i64 b.f7)) = VZ at *
      have q0 := blkCell hz 0
      have q1 := blkCell hz 1
      have q2 := blkCell hz 2
      have q3 := blkCell hz 3
      have q4 := blkCell hz 4
      have q5 := blkCell hz 5
      have q6 := blkCell hz 6
      have q7 := blkCell hz 7
      have q8 := blkCell hz 8
      have q9 := blkCell hz 9
      have q10 := blkCell hz 10
      simp at q0 q1 q2 q3 q4 q5 q6 q7 q8 q9 q10
      refine bodyPost_ret (v := .agg #[.int .i64 b.f0, .int .u8 b.f1, .int .i64 b.f2, .int .i64 b.f3, .int .i64 b.f4.f0, .int .i64 b.f4.f1, .int .i64 b.f5.f0, .int .i64 b.f5.f1, .int .i64 b.f6.f0, .int .i64 b.f6.f1, .int .i64 b.f7]) (by simp [results, Try.results50, go_sem, q0, q1, q2, q3, q4, q5, q6, q7, q8, q9, q10]) rfl ⟨by rw [HBR.out], hb⟩
end Go.Proofs.Ytbmkbokkmmdjdaa
end
