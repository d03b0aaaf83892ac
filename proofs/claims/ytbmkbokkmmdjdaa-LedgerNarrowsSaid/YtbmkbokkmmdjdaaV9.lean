-- MB (wip/pack9.py)
import Derived.Test.YtbmkbokkmmdjdaaV7
import Derived.Test.YtbmkbokkmmdjdaaV8
section
namespace Go.Proofs.Ytbmkbokkmmdjdaa
open Go.RowKit Go.Proofs.YtbmkbokkmmdjdaaW.PrintWords Go.Proofs.YtbmkbokkmmdjdaaW.PrintLast Go.Proofs.YtbmkbokkmmdjdaaW.PrintMore
open Q Go.Shelf
attribute [local go_sem] Oper.semAt_some wide_depth wide_fn
set_option linter.unusedVariables false
set_option linter.unusedSimpArgs false
set_option maxRecDepth 100000 in
set_option maxHeartbeats 2000000 in
theorem bare1 (x : S36) (w : World) : Calls Try.prog 99 #[.agg #[.int .i64 x.f0, .int .u8 x.f1, .int .i64 x.f2, .int .i64 x.f3, .int .i64 x.f4.f0, .int .i64 x.f4.f1, .int .i64 x.f5.f0, .int .i64 x.f5.f1, .int .i64 x.f6.f0, .int .i64 x.f6.f1, .int .i64 x.f7]] w fun e w' => e = .returned (.agg #[.int .i64 x.f0, .int .u8 x.f1, .int .i64 x.f2, .int .i64 x.f3, .int .i64 0, .int .i64 0, .int .i64 0, .int .i64 0, .int .i64 0, .int .i64 0, .int .i64 x.f7]) ∧ Below w.heap.size w w' := by
  have hu := Try.underlying36
  have hu1 := Try.underlying145
  have hu2 := Try.underlying23
  have HB := Below.refl w.heap.size w
  go_enter Try.func99, Try.ntmps99
  go_upto_region 3 with fail
  have hbel := ((HB.alloc (Nat.le_refl _) (.cells #[.int .i64 x.f0, .int .u8 x.f1, .int .i64 x.f2, .int .i64 x.f3, .int .i64 x.f4.f0, .int .i64 x.f4.f1, .int .i64 x.f5.f0, .int .i64 x.f5.f1, .int .i64 x.f6.f0, .int .i64 x.f6.f1, .int .i64 x.f7] 145)).alloc (by simp) (.cells #[.int .i64 0, .int .u8 0, .int .i64 0, .int .i64 0, .int .i64 0, .int .i64 0, .int .i64 0, .int .i64 0, .int .i64 0, .int .i64 0, .int .i64 0] 36)).alloc (by simp; omega) (.cells #[.int .i64 x.f0, .int .u8 x.f1, .int .i64 x.f2, .int .i64 x.f3, .int .i64 0, .int .i64 0, .int .i64 0, .int .i64 0, .int .i64 0, .int .i64 0, .int .i64 x.f7] 36)
  have e1 := alloc_old (o' := .cells #[.int .i64 x.f0, .int .u8 x.f1, .int .i64 x.f2, .int .i64 x.f3, .int .i64 0, .int .i64 0, .int .i64 0, .int .i64 0, .int .i64 0, .int .i64 0, .int .i64 x.f7] 36) (World.alloc_heap_new (w.alloc (.cells #[.int .i64 x.f0, .int .u8 x.f1, .int .i64 x.f2, .int .i64 x.f3, .int .i64 x.f4.f0, .int .i64 x.f4.f1, .int .i64 x.f5.f0, .int .i64 x.f5.f1, .int .i64 x.f6.f0, .int .i64 x.f6.f1, .int .i64 x.f7] 145)) (.cells #[.int .i64 0, .int .u8 0, .int .i64 0, .int .i64 0, .int .i64 0, .int .i64 0, .int .i64 0, .int .i64 0, .int .i64 0, .int .i64 0, .int .i64 0] 36))
  have e2 := World.alloc_heap_new ((w.alloc (.cells #[.int .i64 x.f0, .int .u8 x.f1, .int .i64 x.f2, .int .i64 x.f3, .int .i64 x.f4.f0, .int .i64 x.f4.f1, .int .i64 x.f5.f0, .int .i64 x.f5.f1, .int .i64 x.f6.f0, .int .i64 x.f6.f1, .int .i64 x.f7] 145)).alloc (.cells #[.int .i64 0, .int .u8 0, .int .i64 0, .int .i64 0, .int .i64 0, .int .i64 0, .int .i64 0, .int .i64 0, .int .i64 0, .int .i64 0, .int .i64 0] 36)) (.cells #[.int .i64 x.f0, .int .u8 x.f1, .int .i64 x.f2, .int .i64 x.f3, .int .i64 0, .int .i64 0, .int .i64 0, .int .i64 0, .int .i64 0, .int .i64 0, .int .i64 x.f7] 36)
  simp only [World.size_alloc] at e1 e2
  generalize (((w.alloc (.cells #[.int .i64 x.f0, .int .u8 x.f1, .int .i64 x.f2, .int .i64 x.f3, .int .i64 x.f4.f0, .int .i64 x.f4.f1, .int .i64 x.f5.f0, .int .i64 x.f5.f1, .int .i64 x.f6.f0, .int .i64 x.f6.f1, .int .i64 x.f7] 145)).alloc (.cells #[.int .i64 0, .int .u8 0, .int .i64 0, .int .i64 0, .int .i64 0, .int .i64 0, .int .i64 0, .int .i64 0, .int .i64 0, .int .i64 0, .int .i64 0] 36)).alloc (.cells #[.int .i64 x.f0, .int .u8 x.f1, .int .i64 x.f2, .int .i64 x.f3, .int .i64 0, .int .i64 0, .int .i64 0, .int .i64 0, .int .i64 0, .int .i64 0, .int .i64 x.f7] 36)) = W3 at *
  have y0 := blkCell e2 0
  have z0 := blkCell e1 0
  have f0 := blkFrozen e1 0
  have y1 := blkCell e2 1
  have z1 := blkCell e1 1
  have f1 := blkFrozen e1 1
  have y2 := blkCell e2 2
  have z2 := blkCell e1 2
  have f2 := blkFrozen e1 2
  have y3 := blkCell e2 3
  have z3 := blkCell e1 3
  have f3 := blkFrozen e1 3
  have y4 := blkCell e2 4
  have z4 := blkCell e1 4
  have f4 := blkFrozen e1 4
  have y5 := blkCell e2 5
  have z5 := blkCell e1 5
  have f5 := blkFrozen e1 5
  have y6 := blkCell e2 6
  have z6 := blkCell e1 6
  have f6 := blkFrozen e1 6
  have y7 := blkCell e2 7
  have z7 := blkCell e1 7
  have f7 := blkFrozen e1 7
  have y8 := blkCell e2 8
  have z8 := blkCell e1 8
  have f8 := blkFrozen e1 8
  have y9 := blkCell e2 9
  have z9 := blkCell e1 9
  have f9 := blkFrozen e1 9
  have y10 := blkCell e2 10
  have z10 := blkCell e1 10
  have f10 := blkFrozen e1 10
  simp at y0 z0 y1 z1 y2 z2 y3 z3 y4 z4 y5 z5 y6 z6 y7 z7 y8 z8 y9 z9 y10 z10
  have HE := hid e1
  have HBL := hid hbel
  clear e1 e2 hbel HB
  go_wp2_with fail
  have hz := st11_same HE.out (.int .i64 x.f0) (.int .u8 x.f1) (.int .i64 x.f2) (.int .i64 x.f3) (.int .i64 0) (.int .i64 0) (.int .i64 0) (.int .i64 0) (.int .i64 0) (.int .i64 0) (.int .i64 x.f7)
  have hb := st11_below HBL.out (show w.heap.size ≤ w.heap.size + 1 by omega) (.int .i64 x.f0) (.int .u8 x.f1) (.int .i64 x.f2) (.int .i64 x.f3) (.int .i64 0) (.int .i64 0) (.int .i64 0) (.int .i64 0) (.int .i64 0) (.int .i64 0) (.int .i64 x.f7)
  generalize (((((((((((W3.setCell ⟨w.heap.size + 1, 0, none⟩ (.int .i64 x.f0)).setCell ⟨w.heap.size + 1, 1, none⟩ (.int .u8 x.f1)).setCell ⟨w.heap.size + 1, 2, none⟩ (.int .i64 x.f2)).setCell ⟨w.heap.size + 1, 3, none⟩ (.int .i64 x.f3)).setCell ⟨w.heap.size + 1, 4, none⟩ (.int .i64 0)).setCell ⟨w.heap.size + 1, 5, none⟩ (.int .i64 0)).setCell ⟨w.heap.size + 1, 6, none⟩ (.int .i64 0)).setCell ⟨w.heap.size + 1, 7, none⟩ (.int .i64 0)).setCell ⟨w.heap.size + 1, 8, none⟩ (.int .i64 0)).setCell ⟨w.heap.size + 1, 9, none⟩ (.int .i64 0)).setCell ⟨w.heap.size + 1, 10, none⟩ (.int .i64 x.f7)) = W4 at *
  have q0 := blkCell hz 0
  have q1 := blkCell hz 1
  have q2 := blkCell hz 2
  have q3 := blkCell hz 3
  have q4 := blkCell hz 4
  have q5 := blkCell hz 5
  have q6 := blkCell hz 6
  have q7 := blkCell hz 7
  have q8 := blkCell hz 8
  have q9 := blkCell hz 9
  have q10 := blkCell hz 10
  simp at q0 q1 q2 q3 q4 q5 q6 q7 q8 q9 q10
  refine bodyPost_ret (v := .agg #[.int .i64 x.f0, .int .u8 x.f1, .int .i64 x.f2, .int .i64 x.f3, .int .i64 0, .int .i64 0, .int .i64 0, .int .i64 0, .int .i64 0, .int .i64 0, .int .i64 x.f7]) (by simp [results, Try.results99, go_sem, q0, q1, q2, q3, q4, q5, q6, q7, q8, q9, q10]) rfl ⟨rfl, hb⟩
set_option maxRecDepth 100000 in
set_option maxHeartbeats 2000000 in
theorem bare2 (x : S36) (w : World) : Calls Try.prog 104 #[.agg #[.int .i64 x.f0, .int .u8 x.f1, .int .i64 x.f2, .int .i64 x.f3, .int .i64 x.f4.f0, .int .i64 x.f4.f1, .int .i64 x.f5.f0, .int .i64 x.f5.f1, .int .i64 x.f6.f0, .int .i64 x.f6.f1, .int .i64 x.f7]] w fun e w' => e = .returned (.agg #[.int .i64 x.f0, .int .u8 x.f1, .int .i64 0, .int .i64 x.f3, .int .i64 0, .int .i64 0, .int .i64 x.f5.f0, .int .i64 x.f5.f1, .int .i64 x.f6.f0, .int .i64 x.f6.f1, .int .i64 x.f7]) ∧ Below w.heap.size w w' := by
  have hu := Try.underlying36
  have hu1 := Try.underlying146
  have hu2 := Try.underlying23
  have HB := Below.refl w.heap.size w
  go_enter Try.func104, Try.ntmps104
  go_upto_region 3 with fail
  have hbel := ((HB.alloc (Nat.le_refl _) (.cells #[.int .i64 x.f0, .int .u8 x.f1, .int .i64 x.f2, .int .i64 x.f3, .int .i64 x.f4.f0, .int .i64 x.f4.f1, .int .i64 x.f5.f0, .int .i64 x.f5.f1, .int .i64 x.f6.f0, .int .i64 x.f6.f1, .int .i64 x.f7] 146)).alloc (by simp) (.cells #[.int .i64 0, .int .u8 0, .int .i64 0, .int .i64 0, .int .i64 0, .int .i64 0, .int .i64 0, .int .i64 0, .int .i64 0, .int .i64 0, .int .i64 0] 36)).alloc (by simp; omega) (.cells #[.int .i64 x.f0, .int .u8 x.f1, .int .i64 0, .int .i64 x.f3, .int .i64 0, .int .i64 0, .int .i64 x.f5.f0, .int .i64 x.f5.f1, .int .i64 x.f6.f0, .int .i64 x.f6.f1, .int .i64 x.f7] 36)
  have e1 := alloc_old (o' := .cells #[.int .i64 x.f0, .int .u8 x.f1, .int .i64 0, .int .i64 x.f3, .int .i64 0, .int .i64 0, .int .i64 x.f5.f0, .int .i64 x.f5.f1, .int .i64 x.f6.f0, .int .i64 x.f6.f1, .int .i64 x.f7] 36) (World.alloc_heap_new (w.alloc (.cells #[.int .i64 x.f0, .int .u8 x.f1, .int .i64 x.f2, .int .i64 x.f3, .int .i64 x.f4.f0, .int .i64 x.f4.f1, .int .i64 x.f5.f0, .int .i64 x.f5.f1, .int .i64 x.f6.f0, .int .i64 x.f6.f1, .int .i64 x.f7] 146)) (.cells #[.int .i64 0, .int .u8 0, .int .i64 0, .int .i64 0, .int .i64 0, .int .i64 0, .int .i64 0, .int .i64 0, .int .i64 0, .int .i64 0, .int .i64 0] 36))
  have e2 := World.alloc_heap_new ((w.alloc (.cells #[.int .i64 x.f0, .int .u8 x.f1, .int .i64 x.f2, .int .i64 x.f3, .int .i64 x.f4.f0, .int .i64 x.f4.f1, .int .i64 x.f5.f0, .int .i64 x.f5.f1, .int .i64 x.f6.f0, .int .i64 x.f6.f1, .int .i64 x.f7] 146)).alloc (.cells #[.int .i64 0, .int .u8 0, .int .i64 0, .int .i64 0, .int .i64 0, .int .i64 0, .int .i64 0, .int .i64 0, .int .i64 0, .int .i64 0, .int .i64 0] 36)) (.cells #[.int .i64 x.f0, .int .u8 x.f1, .int .i64 0, .int .i64 x.f3, .int .i64 0, .int .i64 0, .int .i64 x.f5.f0, .int .i64 x.f5.f1, .int .i64 x.f6.f0, .int .i64 x.f6.f1, .int .i64 x.f7] 36)
  simp only [World.size_alloc] at e1 e2
  generalize (((w.alloc (.cells #[.int .i64 x.f0, .int .u8 x.f1, .int .i64 x.f2, .int .i64 x.f3, .int .i64 x.f4.f0, .int .i64 x.f4.f1, .int .i64 x.f5.f0, .int .i64 x.f5.f1, .int .i64 x.f6.f0, .int .i64 x.f6.f1, .int .i64 x.f7] 146)).alloc (.cells #[.int .i64 0, .int .u8 0, .int .i64 0, .int .i64 0, .int .i64 0, .int .i64 0, .int .i64 0, .int .i64 0, .int .i64 0, .int .i64 0, .int .i64 0] 36)).alloc (.cells #[.int .i64 x.f0, .int .u8 x.f1, .int .i64 0, .int .i64 x.f3, .int .i64 0, .int .i64 0, .int .i64 x.f5.f0, .int .i64 x.f5.f1, .int .i64 x.f6.f0, .int .i64 x.f6.f1, .int .i64 x.f7] 36)) = W3 at *
  have y0 := blkCell e2 0
  have z0 := blkCell e1 0
  have f0 := blkFrozen e1 0
  have y1 := blkCell e2 1
  have z1 := blkCell e1 1
  have f1 := blkFrozen e1 1
  have y2 := blkCell e2 2
  have z2 := blkCell e1 2
  have f2 := blkFrozen e1 2
  have y3 := blkCell e2 3
  have z3 := blkCell e1 3
  have f3 := blkFrozen e1 3
  have y4 := blkCell e2 4
  have z4 := blkCell e1 4
  have f4 := blkFrozen e1 4
  have y5 := blkCell e2 5
  have z5 := blkCell e1 5
  have f5 := blkFrozen e1 5
  have y6 := blkCell e2 6
  have z6 := blkCell e1 6
  have f6 := blkFrozen e1 6
  have y7 := blkCell e2 7
  have z7 := blkCell e1 7
  have f7 := blkFrozen e1 7
  have y8 := blkCell e2 8
  have z8 := blkCell e1 8
  have f8 := blkFrozen e1 8
  have y9 := blkCell e2 9
  have z9 := blkCell e1 9
  have f9 := blkFrozen e1 9
  have y10 := blkCell e2 10
  have z10 := blkCell e1 10
  have f10 := blkFrozen e1 10
  simp at y0 z0 y1 z1 y2 z2 y3 z3 y4 z4 y5 z5 y6 z6 y7 z7 y8 z8 y9 z9 y10 z10
  have HE := hid e1
  have HBL := hid hbel
  clear e1 e2 hbel HB
  go_wp2_with fail
  have hz := st11_same HE.out (.int .i64 x.f0) (.int .u8 x.f1) (.int .i64 0) (.int .i64 x.f3) (.int .i64 0) (.int .i64 0) (.int .i64 x.f5.f0) (.int .i64 x.f5.f1) (.int .i64 x.f6.f0) (.int .i64 x.f6.f1) (.int .i64 x.f7)
  have hb := st11_below HBL.out (show w.heap.size ≤ w.heap.size + 1 by omega) (.int .i64 x.f0) (.int .u8 x.f1) (.int .i64 0) (.int .i64 x.f3) (.int .i64 0) (.int .i64 0) (.int .i64 x.f5.f0) (.int .i64 x.f5.f1) (.int .i64 x.f6.f0) (.int .i64 x.f6.f1) (.int .i64 x.f7)
  generalize (((((((((((W3.setCell ⟨w.heap.size + 1, 0, none⟩ (.int .i64 x.f0)).setCell ⟨w.heap.size + 1, 1, none⟩ (.int .u8 x.f1)).setCell ⟨w.heap.size + 1, 2, none⟩ (.int .i64 0)).setCell ⟨w.heap.size + 1, 3, none⟩ (.int .i64 x.f3)).setCell ⟨w.heap.size + 1, 4, none⟩ (.int .i64 0)).setCell ⟨w.heap.size + 1, 5, none⟩ (.int .i64 0)).setCell ⟨w.heap.size + 1, 6, none⟩ (.int .i64 x.f5.f0)).setCell ⟨w.heap.size + 1, 7, none⟩ (.int .i64 x.f5.f1)).setCell ⟨w.heap.size + 1, 8, none⟩ (.int .i64 x.f6.f0)).setCell ⟨w.heap.size + 1, 9, none⟩ (.int .i64 x.f6.f1)).setCell ⟨w.heap.size + 1, 10, none⟩ (.int .i64 x.f7)) = W4 at *
  have q0 := blkCell hz 0
  have q1 := blkCell hz 1
  have q2 := blkCell hz 2
  have q3 := blkCell hz 3
  have q4 := blkCell hz 4
  have q5 := blkCell hz 5
  have q6 := blkCell hz 6
  have q7 := blkCell hz 7
  have q8 := blkCell hz 8
  have q9 := blkCell hz 9
  have q10 := blkCell hz 10
  simp at q0 q1 q2 q3 q4 q5 q6 q7 q8 q9 q10
  refine bodyPost_ret (v := .agg #[.int .i64 x.f0, .int .u8 x.f1, .int .i64 0, .int .i64 x.f3, .int .i64 0, .int .i64 0, .int .i64 x.f5.f0, .int .i64 x.f5.f1, .int .i64 x.f6.f0, .int .i64 x.f6.f1, .int .i64 x.f7]) (by simp [results, Try.results104, go_sem, q0, q1, q2, q3, q4, q5, q6, q7, q8, q9, q10]) rfl ⟨rfl, hb⟩
set_option maxRecDepth 100000 in
set_option maxHeartbeats 2000000 in
theorem bare3 (x : S36) (w : World) : Calls Try.prog 107 #[.agg #[.int .i64 x.f0, .int .u8 x.f1, .int .i64 x.f2, .int .i64 x.f3, .int .i64 x.f4.f0, .int .i64 x.f4.f1, .int .i64 x.f5.f0, .int .i64 x.f5.f1, .int .i64 x.f6.f0, .int .i64 x.f6.f1, .int .i64 x.f7]] w fun e w' => e = .returned (.agg #[.int .i64 x.f0, .int .u8 x.f1, .int .i64 x.f2, .int .i64 x.f3, .int .i64 0, .int .i64 0, .int .i64 x.f5.f0, .int .i64 x.f5.f1, .int .i64 x.f6.f0, .int .i64 x.f6.f1, .int .i64 x.f7]) ∧ Below w.heap.size w w' := by
  have hu := Try.underlying36
  have hu1 := Try.underlying147
  have hu2 := Try.underlying23
  have HB := Below.refl w.heap.size w
  go_enter Try.func107, Try.ntmps107
  go_upto_region 3 with fail
  have hbel := ((HB.alloc (Nat.le_refl _) (.cells #[.int .i64 x.f0, .int .u8 x.f1, .int .i64 x.f2, .int .i64 x.f3, .int .i64 x.f4.f0, .int .i64 x.f4.f1, .int .i64 x.f5.f0, .int .i64 x.f5.f1, .int .i64 x.f6.f0, .int .i64 x.f6.f1, .int .i64 x.f7] 147)).alloc (by simp) (.cells #[.int .i64 0, .int .u8 0, .int .i64 0, .int .i64 0, .int .i64 0, .int .i64 0, .int .i64 0, .int .i64 0, .int .i64 0, .int .i64 0, .int .i64 0] 36)).alloc (by simp; omega) (.cells #[.int .i64 x.f0, .int .u8 x.f1, .int .i64 x.f2, .int .i64 x.f3, .int .i64 0, .int .i64 0, .int .i64 x.f5.f0, .int .i64 x.f5.f1, .int .i64 x.f6.f0, .int .i64 x.f6.f1, .int .i64 x.f7] 36)
  have e1 := alloc_old (o' := .cells #[.int .i64 x.f0, .int .u8 x.f1, .int .i64 x.f2, .int .i64 x.f3, .int .i64 0, .int .i64 0, .int .i64 x.f5.f0, .int .i64 x.f5.f1, .int .i64 x.f6.f0, .int .i64 x.f6.f1, .int .i64 x.f7] 36) (World.alloc_heap_new (w.alloc (.cells #[.int .i64 x.f0, .int .u8 x.f1, .int .i64 x.f2, .int .i64 x.f3, .int .i64 x.f4.f0, .int .i64 x.f4.f1, .int .i64 x.f5.f0, .int .i64 x.f5.f1, .int .i64 x.f6.f0, .int .i64 x.f6.f1, .int .i64 x.f7] 147)) (.cells #[.int .i64 0, .int .u8 0, .int .i64 0, .int .i64 0, .int .i64 0, .int .i64 0, .int .i64 0, .int .i64 0, .int .i64 0, .int .i64 0, .int .i64 0] 36))
  have e2 := World.alloc_heap_new ((w.alloc (.cells #[.int .i64 x.f0, .int .u8 x.f1, .int .i64 x.f2, .int .i64 x.f3, .int .i64 x.f4.f0, .int .i64 x.f4.f1, .int .i64 x.f5.f0, .int .i64 x.f5.f1, .int .i64 x.f6.f0, .int .i64 x.f6.f1, .int .i64 x.f7] 147)).alloc (.cells #[.int .i64 0, .int .u8 0, .int .i64 0, .int .i64 0, .int .i64 0, .int .i64 0, .int .i64 0, .int .i64 0, .int .i64 0, .int .i64 0, .int .i64 0] 36)) (.cells #[.int .i64 x.f0, .int .u8 x.f1, .int .i64 x.f2, .int .i64 x.f3, .int .i64 0, .int .i64 0, .int .i64 x.f5.f0, .int .i64 x.f5.f1, .int .i64 x.f6.f0, .int .i64 x.f6.f1, .int .i64 x.f7] 36)
  simp only [World.size_alloc] at e1 e2
  generalize (((w.alloc (.cells #[.int .i64 x.f0, .int .u8 x.f1, .int .i64 x.f2, .int .i64 x.f3, .int .i64 x.f4.f0, .int .i64 x.f4.f1, .int .i64 x.f5.f0, .int .i64 x.f5.f1, .int .i64 x.f6.f0, .int .i64 x.f6.f1, .int .i64 x.f7] 147)).alloc (.cells #[.int .i64 0, .int .u8 0, .int .i64 0, .int .i64 0, .int .i64 0, .int .i64 0, .int .i64 0, .int .i64 0, .int .i64 0, .int .i64 0, .int .i64 0] 36)).alloc (.cells #[.int .i64 x.f0, .int .u8 x.f1, .int .i64 x.f2, .int .i64 x.f3, .int .i64 0, .int .i64 0, .int .i64 x.f5.f0, .int .i64 x.f5.f1, .int .i64 x.f6.f0, .int .i64 x.f6.f1, .int .i64 x.f7] 36)) = W3 at *
  have y0 := blkCell e2 0
  have z0 := blkCell e1 0
  have f0 := blkFrozen e1 0
  have y1 := blkCell e2 1
  have z1 := blkCell e1 1
  have f1 := blkFrozen e1 1
  have y2 := blkCell e2 2
  have z2 := blkCell e1 2
  have f2 := blkFrozen e1 2
  have y3 := blkCell e2 3
  have z3 := blkCell e1 3
  have f3 := blkFrozen e1 3
  have y4 := blkCell e2 4
  have z4 := blkCell e1 4
  have f4 := blkFrozen e1 4
  have y5 := blkCell e2 5
  have z5 := blkCell e1 5
  have f5 := blkFrozen e1 5
  have y6 := blkCell e2 6
  have z6 := blkCell e1 6
  have f6 := blkFrozen e1 6
  have y7 := blkCell e2 7
  have z7 := blkCell e1 7
  have f7 := blkFrozen e1 7
  have y8 := blkCell e2 8
  have z8 := blkCell e1 8
  have f8 := blkFrozen e1 8
  have y9 := blkCell e2 9
  have z9 := blkCell e1 9
  have f9 := blkFrozen e1 9
  have y10 := blkCell e2 10
  have z10 := blkCell e1 10
  have f10 := blkFrozen e1 10
  simp at y0 z0 y1 z1 y2 z2 y3 z3 y4 z4 y5 z5 y6 z6 y7 z7 y8 z8 y9 z9 y10 z10
  have HE := hid e1
  have HBL := hid hbel
  clear e1 e2 hbel HB
  go_wp2_with fail
  have hz := st11_same HE.out (.int .i64 x.f0) (.int .u8 x.f1) (.int .i64 x.f2) (.int .i64 x.f3) (.int .i64 0) (.int .i64 0) (.int .i64 x.f5.f0) (.int .i64 x.f5.f1) (.int .i64 x.f6.f0) (.int .i64 x.f6.f1) (.int .i64 x.f7)
  have hb := st11_below HBL.out (show w.heap.size ≤ w.heap.size + 1 by omega) (.int .i64 x.f0) (.int .u8 x.f1) (.int .i64 x.f2) (.int .i64 x.f3) (.int .i64 0) (.int .i64 0) (.int .i64 x.f5.f0) (.int .i64 x.f5.f1) (.int .i64 x.f6.f0) (.int .i64 x.f6.f1) (.int .i64 x.f7)
  generalize (((((((((((W3.setCell ⟨w.heap.size + 1, 0, none⟩ (.int .i64 x.f0)).setCell ⟨w.heap.size + 1, 1, none⟩ (.int .u8 x.f1)).setCell ⟨w.heap.size + 1, 2, none⟩ (.int .i64 x.f2)).setCell ⟨w.heap.size + 1, 3, none⟩ (.int .i64 x.f3)).setCell ⟨w.heap.size + 1, 4, none⟩ (.int .i64 0)).setCell ⟨w.heap.size + 1, 5, none⟩ (.int .i64 0)).setCell ⟨w.heap.size + 1, 6, none⟩ (.int .i64 x.f5.f0)).setCell ⟨w.heap.size + 1, 7, none⟩ (.int .i64 x.f5.f1)).setCell ⟨w.heap.size + 1, 8, none⟩ (.int .i64 x.f6.f0)).setCell ⟨w.heap.size + 1, 9, none⟩ (.int .i64 x.f6.f1)).setCell ⟨w.heap.size + 1, 10, none⟩ (.int .i64 x.f7)) = W4 at *
  have q0 := blkCell hz 0
  have q1 := blkCell hz 1
  have q2 := blkCell hz 2
  have q3 := blkCell hz 3
  have q4 := blkCell hz 4
  have q5 := blkCell hz 5
  have q6 := blkCell hz 6
  have q7 := blkCell hz 7
  have q8 := blkCell hz 8
  have q9 := blkCell hz 9
  have q10 := blkCell hz 10
  simp at q0 q1 q2 q3 q4 q5 q6 q7 q8 q9 q10
  refine bodyPost_ret (v := .agg #[.int .i64 x.f0, .int .u8 x.f1, .int .i64 x.f2, .int .i64 x.f3, .int .i64 0, .int .i64 0, .int .i64 x.f5.f0, .int .i64 x.f5.f1, .int .i64 x.f6.f0, .int .i64 x.f6.f1, .int .i64 x.f7]) (by simp [results, Try.results107, go_sem, q0, q1, q2, q3, q4, q5, q6, q7, q8, q9, q10]) rfl ⟨rfl, hb⟩
set_option maxRecDepth 100000 in
set_option maxHeartbeats 2000000 in
theorem bare4 (x : S36) (w : World) : Calls Try.prog 110 #[.agg #[.int .i64 x.f0, .int .u8 x.f1, .int .i64 x.f2, .int .i64 x.f3, .int .i64 x.f4.f0, .int .i64 x.f4.f1, .int .i64 x.f5.f0, .int .i64 x.f5.f1, .int .i64 x.f6.f0, .int .i64 x.f6.f1, .int .i64 x.f7]] w fun e w' => e = .returned (.agg #[.int .i64 x.f0, .int .u8 x.f1, .int .i64 x.f2, .int .i64 0, .int .i64 0, .int .i64 0, .int .i64 x.f5.f0, .int .i64 x.f5.f1, .int .i64 x.f6.f0, .int .i64 x.f6.f1, .int .i64 x.f7]) ∧ Below w.heap.size w w' := by
  have hu := Try.underlying36
  have hu1 := Try.underlying148
  have hu2 := Try.underlying23
  have HB := Below.refl w.heap.size w
  go_enter Try.func110, Try.ntmps110
  go_upto_region 3 with fail
  have hbel := ((HB.alloc (Nat.le_refl _) (.cells #[.int .i64 x.f0, .int .u8 x.f1, .int .i64 x.f2, .int .i64 x.f3, .int .i64 x.f4.f0, .int .i64 x.f4.f1, .int .i64 x.f5.f0, .int .i64 x.f5.f1, .int .i64 x.f6.f0, .int .i64 x.f6.f1, .int .i64 x.f7] 148)).alloc (by simp) (.cells #[.int .i64 0, .int .u8 0, .int .i64 0, .int .i64 0, .int .i64 0, .int .i64 0, .int .i64 0, .int .i64 0, .int .i64 0, .int .i64 0, .int .i64 0] 36)).alloc (by simp; omega) (.cells #[.int .i64 x.f0, .int .u8 x.f1, .int .i64 x.f2, .int .i64 0, .int .i64 0, .int .i64 0, .int .i64 x.f5.f0, .int .i64 x.f5.f1, .int .i64 x.f6.f0, .int .i64 x.f6.f1, .int .i64 x.f7] 36)
  have e1 := alloc_old (o' := .cells #[.int .i64 x.f0, .int .u8 x.f1, .int .i64 x.f2, .int .i64 0, .int .i64 0, .int .i64 0, .int .i64 x.f5.f0, .int .i64 x.f5.f1, .int .i64 x.f6.f0, .int .i64 x.f6.f1, .int .i64 x.f7] 36) (World.alloc_heap_new (w.alloc (.cells #[.int .i64 x.f0, .int .u8 x.f1, .int .i64 x.f2, .int .i64 x.f3, .int .i64 x.f4.f0, .int .i64 x.f4.f1, .int .i64 x.f5.f0, .int .i64 x.f5.f1, .int .i64 x.f6.f0, .int .i64 x.f6.f1, .int .i64 x.f7] 148)) (.cells #[.int .i64 0, .int .u8 0, .int .i64 0, .int .i64 0, .int .i64 0, .int .i64 0, .int .i64 0, .int .i64 0, .int .i64 0, .int .i64 0, .int .i64 0] 36))
  have e2 := World.alloc_heap_new ((w.alloc (.cells #[.int .i64 x.f0, .int .u8 x.f1, .int .i64 x.f2, .int .i64 x.f3, .int .i64 x.f4.f0, .int .i64 x.f4.f1, .int .i64 x.f5.f0, .int .i64 x.f5.f1, .int .i64 x.f6.f0, .int .i64 x.f6.f1, .int .i64 x.f7] 148)).alloc (.cells #[.int .i64 0, .int .u8 0, .int .i64 0, .int .i64 0, .int .i64 0, .int .i64 0, .int .i64 0, .int .i64 0, .int .i64 0, .int .i64 0, .int .i64 0] 36)) (.cells #[.int .i64 x.f0, .int .u8 x.f1, .int .i64 x.f2, .int .i64 0, .int .i64 0, .int .i64 0, .int .i64 x.f5.f0, .int .i64 x.f5.f1, .int .i64 x.f6.f0, .int .i64 x.f6.f1, .int .i64 x.f7] 36)
  simp only [World.size_alloc] at e1 e2
  generalize (((w.alloc (.cells #[.int .i64 x.f0, .int .u8 x.f1, .int .i64 x.f2, .int .i64 x.f3, .int .i64 x.f4.f0, .int .i64 x.f4.f1, .int .i64 x.f5.f0, .int .i64 x.f5.f1, .int .i64 x.f6.f0, .int .i64 x.f6.f1, .int .i64 x.f7] 148)).alloc (.cells #[.int .i64 0, .int .u8 0, .int .i64 0, .int .i64 0, .int .i64 0, .int .i64 0, .int .i64 0, .int .i64 0, .int .i64 0, .int .i64 0, .int .i64 0] 36)).alloc (.cells #[.int .i64 x.f0, .int .u8 x.f1, .int .i64 x.f2, .int .i64 0, .int .i64 0, .int .i64 0, .int .i64 x.f5.f0, .int .i64 x.f5.f1, .int .i64 x.f6.f0, .int .i64 x.f6.f1, .int .i64 x.f7] 36)) = W3 at *
  have y0 := blkCell e2 0
  have z0 := blkCell e1 0
  have f0 := blkFrozen e1 0
  have y1 := blkCell e2 1
  have z1 := blkCell e1 1
  have f1 := blkFrozen e1 1
  have y2 := blkCell e2 2
  have z2 := blkCell e1 2
  have f2 := blkFrozen e1 2
  have y3 := blkCell e2 3
  have z3 := blkCell e1 3
  have f3 := blkFrozen e1 3
  have y4 := blkCell e2 4
  have z4 := blkCell e1 4
  have f4 := blkFrozen e1 4
  have y5 := blkCell e2 5
  have z5 := blkCell e1 5
  have f5 := blkFrozen e1 5
  have y6 := blkCell e2 6
  have z6 := blkCell e1 6
  have f6 := blkFrozen e1 6
  have y7 := blkCell e2 7
  have z7 := blkCell e1 7
  have f7 := blkFrozen e1 7
  have y8 := blkCell e2 8
  have z8 := blkCell e1 8
  have f8 := blkFrozen e1 8
  have y9 := blkCell e2 9
  have z9 := blkCell e1 9
  have f9 := blkFrozen e1 9
  have y10 := blkCell e2 10
  have z10 := blkCell e1 10
  have f10 := blkFrozen e1 10
  simp at y0 z0 y1 z1 y2 z2 y3 z3 y4 z4 y5 z5 y6 z6 y7 z7 y8 z8 y9 z9 y10 z10
  have HE := hid e1
  have HBL := hid hbel
  clear e1 e2 hbel HB
  go_wp2_with fail
  have hz := st11_same HE.out (.int .i64 x.f0) (.int .u8 x.f1) (.int .i64 x.f2) (.int .i64 0) (.int .i64 0) (.int .i64 0) (.int .i64 x.f5.f0) (.int .i64 x.f5.f1) (.int .i64 x.f6.f0) (.int .i64 x.f6.f1) (.int .i64 x.f7)
  have hb := st11_below HBL.out (show w.heap.size ≤ w.heap.size + 1 by omega) (.int .i64 x.f0) (.int .u8 x.f1) (.int .i64 x.f2) (.int .i64 0) (.int .i64 0) (.int .i64 0) (.int .i64 x.f5.f0) (.int .i64 x.f5.f1) (.int .i64 x.f6.f0) (.int .i64 x.f6.f1) (.int .i64 x.f7)
  generalize (((((((((((W3.setCell ⟨w.heap.size + 1, 0, none⟩ (.int .i64 x.f0)).setCell ⟨w.heap.size + 1, 1, none⟩ (.int .u8 x.f1)).setCell ⟨w.heap.size + 1, 2, none⟩ (.int .i64 x.f2)).setCell ⟨w.heap.size + 1, 3, none⟩ (.int .i64 0)).setCell ⟨w.heap.size + 1, 4, none⟩ (.int .i64 0)).setCell ⟨w.heap.size + 1, 5, none⟩ (.int .i64 0)).setCell ⟨w.heap.size + 1, 6, none⟩ (.int .i64 x.f5.f0)).setCell ⟨w.heap.size + 1, 7, none⟩ (.int .i64 x.f5.f1)).setCell ⟨w.heap.size + 1, 8, none⟩ (.int .i64 x.f6.f0)).setCell ⟨w.heap.size + 1, 9, none⟩ (.int .i64 x.f6.f1)).setCell ⟨w.heap.size + 1, 10, none⟩ (.int .i64 x.f7)) = W4 at *
  have q0 := blkCell hz 0
  have q1 := blkCell hz 1
  have q2 := blkCell hz 2
  have q3 := blkCell hz 3
  have q4 := blkCell hz 4
  have q5 := blkCell hz 5
  have q6 := blkCell hz 6
  have q7 := blkCell hz 7
  have q8 := blkCell hz 8
  have q9 := blkCell hz 9
  have q10 := blkCell hz 10
  simp at q0 q1 q2 q3 q4 q5 q6 q7 q8 q9 q10
  refine bodyPost_ret (v := .agg #[.int .i64 x.f0, .int .u8 x.f1, .int .i64 x.f2, .int .i64 0, .int .i64 0, .int .i64 0, .int .i64 x.f5.f0, .int .i64 x.f5.f1, .int .i64 x.f6.f0, .int .i64 x.f6.f1, .int .i64 x.f7]) (by simp [results, Try.results110, go_sem, q0, q1, q2, q3, q4, q5, q6, q7, q8, q9, q10]) rfl ⟨rfl, hb⟩
set_option maxRecDepth 100000 in
set_option maxHeartbeats 2000000 in
theorem bare6 (x : S36) (w : World) : Calls Try.prog 116 #[.agg #[.int .i64 x.f0, .int .u8 x.f1, .int .i64 x.f2, .int .i64 x.f3, .int .i64 x.f4.f0, .int .i64 x.f4.f1, .int .i64 x.f5.f0, .int .i64 x.f5.f1, .int .i64 x.f6.f0, .int .i64 x.f6.f1, .int .i64 x.f7]] w fun e w' => e = .returned (.agg #[.int .i64 x.f0, .int .u8 x.f1, .int .i64 x.f2, .int .i64 x.f3, .int .i64 x.f4.f0, .int .i64 x.f4.f1, .int .i64 x.f5.f0, .int .i64 x.f5.f1, .int .i64 x.f6.f0, .int .i64 x.f6.f1, .int .i64 x.f7]) ∧ Below w.heap.size w w' := by
  have hu := Try.underlying36
  have hu1 := Try.underlying150
  have hu2 := Try.underlying23
  have HB := Below.refl w.heap.size w
  go_enter Try.func116, Try.ntmps116
  go_wp2
  refine bodyPost_ret (v := .agg #[.int .i64 x.f0, .int .u8 x.f1, .int .i64 x.f2, .int .i64 x.f3, .int .i64 x.f4.f0, .int .i64 x.f4.f1, .int .i64 x.f5.f0, .int .i64 x.f5.f1, .int .i64 x.f6.f0, .int .i64 x.f6.f1, .int .i64 x.f7]) (by simp [results, Try.results116, go_sem]) rfl ⟨rfl, (HB.alloc (Nat.le_refl _) _).alloc (by simp) _⟩
set_option maxRecDepth 100000 in
set_option maxHeartbeats 2000000 in
theorem bare7 (x : S36) (w : World) : Calls Try.prog 119 #[.agg #[.int .i64 x.f0, .int .u8 x.f1, .int .i64 x.f2, .int .i64 x.f3, .int .i64 x.f4.f0, .int .i64 x.f4.f1, .int .i64 x.f5.f0, .int .i64 x.f5.f1, .int .i64 x.f6.f0, .int .i64 x.f6.f1, .int .i64 x.f7]] w fun e w' => e = .returned (.agg #[.int .i64 x.f0, .int .u8 x.f1, .int .i64 x.f2, .int .i64 0, .int .i64 x.f4.f0, .int .i64 x.f4.f1, .int .i64 x.f5.f0, .int .i64 x.f5.f1, .int .i64 x.f6.f0, .int .i64 x.f6.f1, .int .i64 0]) ∧ Below w.heap.size w w' := by
  have hu := Try.underlying36
  have hu1 := Try.underlying151
  have hu2 := Try.underlying23
  have HB := Below.refl w.heap.size w
  go_enter Try.func119, Try.ntmps119
  go_upto_region 3 with fail
  have hbel := ((HB.alloc (Nat.le_refl _) (.cells #[.int .i64 x.f0, .int .u8 x.f1, .int .i64 x.f2, .int .i64 x.f3, .int .i64 x.f4.f0, .int .i64 x.f4.f1, .int .i64 x.f5.f0, .int .i64 x.f5.f1, .int .i64 x.f6.f0, .int .i64 x.f6.f1, .int .i64 x.f7] 151)).alloc (by simp) (.cells #[.int .i64 0, .int .u8 0, .int .i64 0, .int .i64 0, .int .i64 0, .int .i64 0, .int .i64 0, .int .i64 0, .int .i64 0, .int .i64 0, .int .i64 0] 36)).alloc (by simp; omega) (.cells #[.int .i64 x.f0, .int .u8 x.f1, .int .i64 x.f2, .int .i64 0, .int .i64 x.f4.f0, .int .i64 x.f4.f1, .int .i64 x.f5.f0, .int .i64 x.f5.f1, .int .i64 x.f6.f0, .int .i64 x.f6.f1, .int .i64 0] 36)
  have e1 := alloc_old (o' := .cells #[.int .i64 x.f0, .int .u8 x.f1, .int .i64 x.f2, .int .i64 0, .int .i64 x.f4.f0, .int .i64 x.f4.f1, .int .i64 x.f5.f0, .int .i64 x.f5.f1, .int .i64 x.f6.f0, .int .i64 x.f6.f1, .int .i64 0] 36) (World.alloc_heap_new (w.alloc (.cells #[.int .i64 x.f0, .int .u8 x.f1, .int .i64 x.f2, .int .i64 x.f3, .int .i64 x.f4.f0, .int .i64 x.f4.f1, .int .i64 x.f5.f0, .int .i64 x.f5.f1, .int .i64 x.f6.f0, .int .i64 x.f6.f1, .int .i64 x.f7] 151)) (.cells #[.int .i64 0, .int .u8 0, .int .i64 0, .int .i64 0, .int .i64 0, .int .i64 0, .int .i64 0, .int .i64 0, .int .i64 0, .int .i64 0, .int .i64 0] 36))
  have e2 := World.alloc_heap_new ((w.alloc (.cells #[.int .i64 x.f0, .int .u8 x.f1, .int .i64 x.f2, .int .i64 x.f3, .int .i64 x.f4.f0, .int .i64 x.f4.f1, .int .i64 x.f5.f0, .int .i64 x.f5.f1, .int .i64 x.f6.f0, .int .i64 x.f6.f1, .int .i64 x.f7] 151)).alloc (.cells #[.int .i64 0, .int .u8 0, .int .i64 0, .int .i64 0, .int .i64 0, .int .i64 0, .int .i64 0, .int .i64 0, .int .i64 0, .int .i64 0, .int .i64 0] 36)) (.cells #[.int .i64 x.f0, .int .u8 x.f1, .int .i64 x.f2, .int .i64 0, .int .i64 x.f4.f0, .int .i64 x.f4.f1, .int .i64 x.f5.f0, .int .i64 x.f5.f1, .int .i64 x.f6.f0, .int .i64 x.f6.f1, .int .i64 0] 36)
  simp only [World.size_alloc] at e1 e2
  generalize (((w.alloc (.cells #[.int .i64 x.f0, .int .u8 x.f1, .int .i64 x.f2, .int .i64 x.f3, .int .i64 x.f4.f0, .int .i64 x.f4.f1, .int .i64 x.f5.f0, .int .i64 x.f5.f1, .int .i64 x.f6.f0, .int .i64 x.f6.f1, .int .i64 x.f7] 151)).alloc (.cells #[.int .i64 0, .int .u8 0, .int .i64 0, .int .i64 0, .int .i64 0, .int .i64 0, .int .i64 0, .int .i64 0, .int .i64 0, .int .i64 0, .int .i64 0] 36)).alloc (.cells #[.int .i64 x.f0, .int .u8 x.f1, .int .i64 x.f2, .int .i64 0, .int .i64 x.f4.f0, .int .i64 x.f4.f1, .int .i64 x.f5.f0, .int .i64 x.f5.f1, .int .i64 x.f6.f0, .int .i64 x.f6.f1, .int .i64 0] 36)) = W3 at *
  have y0 := blkCell e2 0
  have z0 := blkCell e1 0
  have f0 := blkFrozen e1 0
  have y1 := blkCell e2 1
  have z1 := blkCell e1 1
  have f1 := blkFrozen e1 1
  have y2 := blkCell e2 2
  have z2 := blkCell e1 2
  have f2 := blkFrozen e1 2
  have y3 := blkCell e2 3
  have z3 := blkCell e1 3
  have f3 := blkFrozen e1 3
  have y4 := blkCell e2 4
  have z4 := blkCell e1 4
  have f4 := blkFrozen e1 4
  have y5 := blkCell e2 5
  have z5 := blkCell e1 5
  have f5 := blkFrozen e1 5
  have y6 := blkCell e2 6
  have z6 := blkCell e1 6
  have f6 := blkFrozen e1 6
  have y7 := blkCell e2 7
  have z7 := blkCell e1 7
  have f7 := blkFrozen e1 7
  have y8 := blkCell e2 8
  have z8 := blkCell e1 8
  have f8 := blkFrozen e1 8
  have y9 := blkCell e2 9
  have z9 := blkCell e1 9
  have f9 := blkFrozen e1 9
  have y10 := blkCell e2 10
  have z10 := blkCell e1 10
  have f10 := blkFrozen e1 10
  simp at y0 z0 y1 z1 y2 z2 y3 z3 y4 z4 y5 z5 y6 z6 y7 z7 y8 z8 y9 z9 y10 z10
  have HE := hid e1
  have HBL := hid hbel
  clear e1 e2 hbel HB
  go_wp2_with fail
  have hz := st11_same HE.out (.int .i64 x.f0) (.int .u8 x.f1) (.int .i64 x.f2) (.int .i64 0) (.int .i64 x.f4.f0) (.int .i64 x.f4.f1) (.int .i64 x.f5.f0) (.int .i64 x.f5.f1) (.int .i64 x.f6.f0) (.int .i64 x.f6.f1) (.int .i64 0)
  have hb := st11_below HBL.out (show w.heap.size ≤ w.heap.size + 1 by omega) (.int .i64 x.f0) (.int .u8 x.f1) (.int .i64 x.f2) (.int .i64 0) (.int .i64 x.f4.f0) (.int .i64 x.f4.f1) (.int .i64 x.f5.f0) (.int .i64 x.f5.f1) (.int .i64 x.f6.f0) (.int .i64 x.f6.f1) (.int .i64 0)
  generalize (((((((((((W3.setCell ⟨w.heap.size + 1, 0, none⟩ (.int .i64 x.f0)).setCell ⟨w.heap.size + 1, 1, none⟩ (.int .u8 x.f1)).setCell ⟨w.heap.size + 1, 2, none⟩ (.int .i64 x.f2)).setCell ⟨w.heap.size + 1, 3, none⟩ (.int .i64 0)).setCell ⟨w.heap.size + 1, 4, none⟩ (.int .i64 x.f4.f0)).setCell ⟨w.heap.size + 1, 5, none⟩ (.int .i64 x.f4.f1)).setCell ⟨w.heap.size + 1, 6, none⟩ (.int .i64 x.f5.f0)).setCell ⟨w.heap.size + 1, 7, none⟩ (.int .i64 x.f5.f1)).setCell ⟨w.heap.size + 1, 8, none⟩ (.int .i64 x.f6.f0)).setCell ⟨w.heap.size + 1, 9, none⟩ (.int .i64 x.f6.f1)).setCell ⟨w.heap.size + 1, 10, none⟩ (.int .i64 0)) = W4 at *
  have q0 := blkCell hz 0
  have q1 := blkCell hz 1
  have q2 := blkCell hz 2
  have q3 := blkCell hz 3
  have q4 := blkCell hz 4
  have q5 := blkCell hz 5
  have q6 := blkCell hz 6
  have q7 := blkCell hz 7
  have q8 := blkCell hz 8
  have q9 := blkCell hz 9
  have q10 := blkCell hz 10
  simp at q0 q1 q2 q3 q4 q5 q6 q7 q8 q9 q10
  refine bodyPost_ret (v := .agg #[.int .i64 x.f0, .int .u8 x.f1, .int .i64 x.f2, .int .i64 0, .int .i64 x.f4.f0, .int .i64 x.f4.f1, .int .i64 x.f5.f0, .int .i64 x.f5.f1, .int .i64 x.f6.f0, .int .i64 x.f6.f1, .int .i64 0]) (by simp [results, Try.results119, go_sem, q0, q1, q2, q3, q4, q5, q6, q7, q8, q9, q10]) rfl ⟨rfl, hb⟩
set_option maxRecDepth 100000 in
set_option maxHeartbeats 2000000 in
theorem bare8 (x : S36) (w : World) : Calls Try.prog 122 #[.agg #[.int .i64 x.f0, .int .u8 x.f1, .int .i64 x.f2, .int .i64 x.f3, .int .i64 x.f4.f0, .int .i64 x.f4.f1, .int .i64 x.f5.f0, .int .i64 x.f5.f1, .int .i64 x.f6.f0, .int .i64 x.f6.f1, .int .i64 x.f7]] w fun e w' => e = .returned (.agg #[.int .i64 x.f0, .int .u8 x.f1, .int .i64 x.f2, .int .i64 0, .int .i64 x.f4.f0, .int .i64 x.f4.f1, .int .i64 x.f5.f0, .int .i64 x.f5.f1, .int .i64 x.f6.f0, .int .i64 x.f6.f1, .int .i64 x.f7]) ∧ Below w.heap.size w w' := by
  have hu := Try.underlying36
  have hu1 := Try.underlying152
  have hu2 := Try.underlying23
  have HB := Below.refl w.heap.size w
  go_enter Try.func122, Try.ntmps122
  go_upto_region 3 with fail
  have hbel := ((HB.alloc (Nat.le_refl _) (.cells #[.int .i64 x.f0, .int .u8 x.f1, .int .i64 x.f2, .int .i64 x.f3, .int .i64 x.f4.f0, .int .i64 x.f4.f1, .int .i64 x.f5.f0, .int .i64 x.f5.f1, .int .i64 x.f6.f0, .int .i64 x.f6.f1, .int .i64 x.f7] 152)).alloc (by simp) (.cells #[.int .i64 0, .int .u8 0, .int .i64 0, .int .i64 0, .int .i64 0, .int .i64 0, .int .i64 0, .int .i64 0, .int .i64 0, .int .i64 0, .int .i64 0] 36)).alloc (by simp; omega) (.cells #[.int .i64 x.f0, .int .u8 x.f1, .int .i64 x.f2, .int .i64 0, .int .i64 x.f4.f0, .int .i64 x.f4.f1, .int .i64 x.f5.f0, .int .i64 x.f5.f1, .int .i64 x.f6.f0, .int .i64 x.f6.f1, .int .i64 x.f7] 36)
  have e1 := alloc_old (o' := .cells #[.int .i64 x.f0, .int .u8 x.f1, .int .i64 x.f2, .int .i64 0, .int .i64 x.f4.f0, .int .i64 x.f4.f1, .int .i64 x.f5.f0, .int .i64 x.f5.f1, .int .i64 x.f6.f0, .int .i64 x.f6.f1, .int .i64 x.f7] 36) (World.alloc_heap_new (w.alloc (.cells #[.int .i64 x.f0, .int .u8 x.f1, .int .i64 x.f2, .int .i64 x.f3, .int .i64 x.f4.f0, .int .i64 x.f4.f1, .int .i64 x.f5.f0, .int .i64 x.f5.f1, .int .i64 x.f6.f0, .int .i64 x.f6.f1, .int .i64 x.f7] 152)) (.cells #[.int .i64 0, .int .u8 0, .int .i64 0, .int .i64 0, .int .i64 0, .int .i64 0, .int .i64 0, .int .i64 0, .int .i64 0, .int .i64 0, .int .i64 0] 36))
  have e2 := World.alloc_heap_new ((w.alloc (.cells #[.int .i64 x.f0, .int .u8 x.f1, .int .i64 x.f2, .int .i64 x.f3, .int .i64 x.f4.f0, .int .i64 x.f4.f1, .int .i64 x.f5.f0, .int .i64 x.f5.f1, .int .i64 x.f6.f0, .int .i64 x.f6.f1, .int .i64 x.f7] 152)).alloc (.cells #[.int .i64 0, .int .u8 0, .int .i64 0, .int .i64 0, .int .i64 0, .int .i64 0, .int .i64 0, .int .i64 0, .int .i64 0, .int .i64 0, .int .i64 0] 36)) (.cells #[.int .i64 x.f0, .int .u8 x.f1, .int .i64 x.f2, .int .i64 0, .int .i64 x.f4.f0, .int .i64 x.f4.f1, .int .i64 x.f5.f0, .int .i64 x.f5.f1, .int .i64 x.f6.f0, .int .i64 x.f6.f1, .int .i64 x.f7] 36)
  simp only [World.size_alloc] at e1 e2
  generalize (((w.alloc (.cells #[.int .i64 x.f0, .int .u8 x.f1, .int .i64 x.f2, .int .i64 x.f3, .int .i64 x.f4.f0, .int .i64 x.f4.f1, .int .i64 x.f5.f0, .int .i64 x.f5.f1, .int .i64 x.f6.f0, .int .i64 x.f6.f1, .int .i64 x.f7] 152)).alloc (.cells #[.int .i64 0, .int .u8 0, .int .i64 0, .int .i64 0, .int .i64 0, .int .i64 0, .int .i64 0, .int .i64 0, .int .i64 0, .int .i64 0, .int .i64 0] 36)).alloc (.cells #[.int .i64 x.f0, .int .u8 x.f1, .int .i64 x.f2, .int .i64 0, .int .i64 x.f4.f0, .int .i64 x.f4.f1, .int .i64 x.f5.f0, .int .i64 x.f5.f1, .int .i64 x.f6.f0, .int .i64 x.f6.f1, .int .i64 x.f7] 36)) = W3 at *
  have y0 := blkCell e2 0
  have z0 := blkCell e1 0
  have f0 := blkFrozen e1 0
  have y1 := blkCell e2 1
  have z1 := blkCell e1 1
  have f1 := blkFrozen e1 1
  have y2 := blkCell e2 2
  have z2 := blkCell e1 2
  have f2 := blkFrozen e1 2
  have y3 := blkCell e2 3
  have z3 := blkCell e1 3
  have f3 := blkFrozen e1 3
  have y4 := blkCell e2 4
  have z4 := blkCell e1 4
  have f4 := blkFrozen e1 4
  have y5 := blkCell e2 5
  have z5 := blkCell e1 5
  have f5 := blkFrozen e1 5
  have y6 := blkCell e2 6
  have z6 := blkCell e1 6
  have f6 := blkFrozen e1 6
  have y7 := blkCell e2 7
  have z7 := blkCell e1 7
  have f7 := blkFrozen e1 7
  have y8 := blkCell e2 8
  have z8 := blkCell e1 8
  have f8 := blkFrozen e1 8
  have y9 := blkCell e2 9
  have z9 := blkCell e1 9
  have f9 := blkFrozen e1 9
  have y10 := blkCell e2 10
  have z10 := blkCell e1 10
  have f10 := blkFrozen e1 10
  simp at y0 z0 y1 z1 y2 z2 y3 z3 y4 z4 y5 z5 y6 z6 y7 z7 y8 z8 y9 z9 y10 z10
  have HE := hid e1
  have HBL := hid hbel
  clear e1 e2 hbel HB
  go_wp2_with fail
  have hz := st11_same HE.out (.int .i64 x.f0) (.int .u8 x.f1) (.int .i64 x.f2) (.int .i64 0) (.int .i64 x.f4.f0) (.int .i64 x.f4.f1) (.int .i64 x.f5.f0) (.int .i64 x.f5.f1) (.int .i64 x.f6.f0) (.int .i64 x.f6.f1) (.int .i64 x.f7)
  have hb := st11_below HBL.out (show w.heap.size ≤ w.heap.size + 1 by omega) (.int .i64 x.f0) (.int .u8 x.f1) (.int .i64 x.f2) (.int .i64 0) (.int .i64 x.f4.f0) (.int .i64 x.f4.f1) (.int .i64 x.f5.f0) (.int .i64 x.f5.f1) (.int .i64 x.f6.f0) (.int .i64 x.f6.f1) (.int .i64 x.f7)
  generalize (((((((((((W3.setCell ⟨w.heap.size + 1, 0, none⟩ (.int .i64 x.f0)).setCell ⟨w.heap.size + 1, 1, none⟩ (.int .u8 x.f1)).setCell ⟨w.heap.size + 1, 2, none⟩ (.int .i64 x.f2)).setCell ⟨w.heap.size + 1, 3, none⟩ (.int .i64 0)).setCell ⟨w.heap.size + 1, 4, none⟩ (.int .i64 x.f4.f0)).setCell ⟨w.heap.size + 1, 5, none⟩ (.int .i64 x.f4.f1)).setCell ⟨w.heap.size + 1, 6, none⟩ (.int .i64 x.f5.f0)).setCell ⟨w.heap.size + 1, 7, none⟩ (.int .i64 x.f5.f1)).setCell ⟨w.heap.size + 1, 8, none⟩ (.int .i64 x.f6.f0)).setCell ⟨w.heap.size + 1, 9, none⟩ (.int .i64 x.f6.f1)).setCell ⟨w.heap.size + 1, 10, none⟩ (.int .i64 x.f7)) = W4 at *
  have q0 := blkCell hz 0
  have q1 := blkCell hz 1
  have q2 := blkCell hz 2
  have q3 := blkCell hz 3
  have q4 := blkCell hz 4
  have q5 := blkCell hz 5
  have q6 := blkCell hz 6
  have q7 := blkCell hz 7
  have q8 := blkCell hz 8
  have q9 := blkCell hz 9
  have q10 := blkCell hz 10
  simp at q0 q1 q2 q3 q4 q5 q6 q7 q8 q9 q10
  refine bodyPost_ret (v := .agg #[.int .i64 x.f0, .int .u8 x.f1, .int .i64 x.f2, .int .i64 0, .int .i64 x.f4.f0, .int .i64 x.f4.f1, .int .i64 x.f5.f0, .int .i64 x.f5.f1, .int .i64 x.f6.f0, .int .i64 x.f6.f1, .int .i64 x.f7]) (by simp [results, Try.results122, go_sem, q0, q1, q2, q3, q4, q5, q6, q7, q8, q9, q10]) rfl ⟨rfl, hb⟩
set_option maxRecDepth 100000 in
set_option maxHeartbeats 2000000 in
theorem bare5 (x : S36) (w : World) : Calls Try.prog 113 #[.agg #[.int .i64 x.f0, .int .u8 x.f1, .int .i64 x.f2, .int .i64 x.f3, .int .i64 x.f4.f0, .int .i64 x.f4.f1, .int .i64 x.f5.f0, .int .i64 x.f5.f1, .int .i64 x.f6.f0, .int .i64 x.f6.f1, .int .i64 x.f7]] w fun e w' => e = .returned (.agg #[.int .i64 x.f0, .int .u8 x.f1, .int .i64 x.f2, .int .i64 x.f3, .int .i64 0, .int .i64 0, .int .i64 x.f5.f0, .int .i64 x.f5.f1, .int .i64 x.f6.f0, .int .i64 x.f6.f1, .int .i64 x.f7]) ∧ Below w.heap.size w w' := by
  have hu := Try.underlying36
  have hu1 := Try.underlying149
  have hu2 := Try.underlying23
  have HB := Below.refl w.heap.size w
  go_enter Try.func113, Try.ntmps113
  go_wp2_with fail
  have hbel := (HB.alloc (Nat.le_refl _) (.cells #[.int .i64 x.f0, .int .u8 x.f1, .int .i64 x.f2, .int .i64 x.f3, .int .i64 x.f4.f0, .int .i64 x.f4.f1, .int .i64 x.f5.f0, .int .i64 x.f5.f1, .int .i64 x.f6.f0, .int .i64 x.f6.f1, .int .i64 x.f7] 149)).alloc (by simp) (.cells #[.int .i64 0, .int .u8 0, .int .i64 0, .int .i64 0, .int .i64 0, .int .i64 0, .int .i64 0, .int .i64 0, .int .i64 0, .int .i64 0, .int .i64 0] 36)
  have e1 := World.alloc_heap_new (w.alloc (.cells #[.int .i64 x.f0, .int .u8 x.f1, .int .i64 x.f2, .int .i64 x.f3, .int .i64 x.f4.f0, .int .i64 x.f4.f1, .int .i64 x.f5.f0, .int .i64 x.f5.f1, .int .i64 x.f6.f0, .int .i64 x.f6.f1, .int .i64 x.f7] 149)) (.cells #[.int .i64 0, .int .u8 0, .int .i64 0, .int .i64 0, .int .i64 0, .int .i64 0, .int .i64 0, .int .i64 0, .int .i64 0, .int .i64 0, .int .i64 0] 36)
  rw [World.size_alloc] at e1
  generalize ((w.alloc (.cells #[.int .i64 x.f0, .int .u8 x.f1, .int .i64 x.f2, .int .i64 x.f3, .int .i64 x.f4.f0, .int .i64 x.f4.f1, .int .i64 x.f5.f0, .int .i64 x.f5.f1, .int .i64 x.f6.f0, .int .i64 x.f6.f1, .int .i64 x.f7] 149)).alloc (.cells #[.int .i64 0, .int .u8 0, .int .i64 0, .int .i64 0, .int .i64 0, .int .i64 0, .int .i64 0, .int .i64 0, .int .i64 0, .int .i64 0, .int .i64 0] 36)) = W2 at *
  refine (bare3 x _).mono ?_
  rintro e W3 ⟨rfl, hb⟩
  have e1 := heap_grow e1 hb
  have hbel := hbel.trans (hb.mono hbel.size)
  clear hb HB
  have z0 := blkCell e1 0
  have f0 := blkFrozen e1 0
  have z1 := blkCell e1 1
  have f1 := blkFrozen e1 1
  have z2 := blkCell e1 2
  have f2 := blkFrozen e1 2
  have z3 := blkCell e1 3
  have f3 := blkFrozen e1 3
  have z4 := blkCell e1 4
  have f4 := blkFrozen e1 4
  have z5 := blkCell e1 5
  have f5 := blkFrozen e1 5
  have z6 := blkCell e1 6
  have f6 := blkFrozen e1 6
  have z7 := blkCell e1 7
  have f7 := blkFrozen e1 7
  have z8 := blkCell e1 8
  have f8 := blkFrozen e1 8
  have z9 := blkCell e1 9
  have f9 := blkFrozen e1 9
  have z10 := blkCell e1 10
  have f10 := blkFrozen e1 10
  simp at z0 z1 z2 z3 z4 z5 z6 z7 z8 z9 z10
  have HE := hid e1
  have HBL := hid hbel
  clear e1 hbel
  go_wp2_with fail
  have hz := st11_same HE.out (.int .i64 x.f0) (.int .u8 x.f1) (.int .i64 x.f2) (.int .i64 x.f3) (.int .i64 0) (.int .i64 0) (.int .i64 x.f5.f0) (.int .i64 x.f5.f1) (.int .i64 x.f6.f0) (.int .i64 x.f6.f1) (.int .i64 x.f7)
  have hb := st11_below HBL.out (show w.heap.size ≤ w.heap.size + 1 by omega) (.int .i64 x.f0) (.int .u8 x.f1) (.int .i64 x.f2) (.int .i64 x.f3) (.int .i64 0) (.int .i64 0) (.int .i64 x.f5.f0) (.int .i64 x.f5.f1) (.int .i64 x.f6.f0) (.int .i64 x.f6.f1) (.int .i64 x.f7)
  generalize (((((((((((W3.setCell ⟨w.heap.size + 1, 0, none⟩ (.int .i64 x.f0)).setCell ⟨w.heap.size + 1, 1, none⟩ (.int .u8 x.f1)).setCell ⟨w.heap.size + 1, 2, none⟩ (.int .i64 x.f2)).setCell ⟨w.heap.size + 1, 3, none⟩ (.int .i64 x.f3)).setCell ⟨w.heap.size + 1, 4, none⟩ (.int .i64 0)).setCell ⟨w.heap.size + 1, 5, none⟩ (.int .i64 0)).setCell ⟨w.heap.size + 1, 6, none⟩ (.int .i64 x.f5.f0)).setCell ⟨w.heap.size + 1, 7, none⟩ (.int .i64 x.f5.f1)).setCell ⟨w.heap.size + 1, 8, none⟩ (.int .i64 x.f6.f0)).setCell ⟨w.heap.size + 1, 9, none⟩ (.int .i64 x.f6.f1)).setCell ⟨w.heap.size + 1, 10, none⟩ (.int .i64 x.f7)) = W4 at *
  have q0 := blkCell hz 0
  have q1 := blkCell hz 1
  have q2 := blkCell hz 2
  have q3 := blkCell hz 3
  have q4 := blkCell hz 4
  have q5 := blkCell hz 5
  have q6 := blkCell hz 6
  have q7 := blkCell hz 7
  have q8 := blkCell hz 8
  have q9 := blkCell hz 9
  have q10 := blkCell hz 10
  simp at q0 q1 q2 q3 q4 q5 q6 q7 q8 q9 q10
  refine bodyPost_ret (v := .agg #[.int .i64 x.f0, .int .u8 x.f1, .int .i64 x.f2, .int .i64 x.f3, .int .i64 0, .int .i64 0, .int .i64 x.f5.f0, .int .i64 x.f5.f1, .int .i64 x.f6.f0, .int .i64 x.f6.f1, .int .i64 x.f7]) (by simp [results, Try.results113, go_sem, q0, q1, q2, q3, q4, q5, q6, q7, q8, q9, q10]) rfl ⟨rfl, hb⟩
end Go.Proofs.Ytbmkbokkmmdjdaa
end
