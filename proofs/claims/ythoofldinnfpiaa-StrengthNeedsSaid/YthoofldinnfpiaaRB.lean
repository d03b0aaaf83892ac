import Derived.Test.YthoofldinnfpiaaHL
import Derived.Test.YthoofldinnfpiaaFL
import Derived.Test.YthoofldinnfpiaaNB
namespace Go.Proofs.Ythoofldinnfpiaa
open Go.RowKit Go.Proofs.YthoofldinnfpiaaW.PrintWords Go.Proofs.YthoofldinnfpiaaW.PrintLast Go.Proofs.YthoofldinnfpiaaW.PrintMore
open Q Go.Shelf
attribute [local go_sem] Oper.semAt_some wide_depth wide_fn
set_option linter.unusedVariables false
theorem rdown_eq {a b v : Int} (h : ¬ b = 0) (e : downW a b = v) (w : World) : Calls Try.prog 57 #[.int .i64 a, .int .i64 b] w fun e w' => e = .returned (.int .i64 v) ∧ Below w.heap.size w w' := by
  subst e
  go_enter Try.func57, Try.ntmps57
  go_wp2
  go_ret
  exact ⟨rfl, Below.refl _ _⟩
theorem rup_eq {a b v : Int} (h : ¬ b = 0) (e : upW a b = v) (w : World) : Calls Try.prog 58 #[.int .i64 a, .int .i64 b] w fun e w' => e = .returned (.int .i64 v) ∧ Below w.heap.size w w' := by
  subst e
  go_enter Try.func58, Try.ntmps58
  go_wp2
  go_ret
  exact ⟨rfl, Below.refl _ _⟩
theorem alloc3_new {w : World} {a b c d : Obj} : ((((w.alloc a).alloc b).alloc c).alloc d).drew.heap[w.heap.size + 1 + 1 + 1]? = some d := by
  have := World.alloc_heap_new (((w.alloc a).alloc b).alloc c) d
  simp only [World.size_alloc] at this
  exact this
theorem drew_cell {w : World} {b j : Nat} {v : Value} (h : w.cell? ⟨b, j, none⟩ = some v) : w.drew.cell? ⟨b, j, none⟩ = some v := h
theorem drew_heap {w : World} {b : Nat} {o : Obj} (h : w.heap[b]? = some o) : w.drew.heap[b]? = some o := h
set_option maxRecDepth 100000 in
set_option maxHeartbeats 4000000 in
theorem refstress_walk (r : S82) (t : S29) (p f s o : Int) (d1 d2 d3 u1 u2 u3 : Int) (n1 : ¬ IntKind.i64.wrap (100 * t.f1) = 0) (e1 : downW (IntKind.i64.wrap ((IntKind.i64.wrap (p * r.f0.f0)) * r.f3.f0)) (IntKind.i64.wrap (100 * t.f1)) = d1) (n2 : ¬ IntKind.i64.wrap ((IntKind.i64.wrap (355 * r.f0.f1)) * t.f1) = 0) (e2 : downW (IntKind.i64.wrap ((IntKind.i64.wrap (500000 * f)) * 113)) (IntKind.i64.wrap ((IntKind.i64.wrap (355 * r.f0.f1)) * t.f1)) = d2) (n3 : ¬ t.f1 = 0) (e3 : downW (IntKind.i64.wrap (r.f4.f0 * s)) (t.f1) = d3) (m1 : ¬ IntKind.i64.wrap (100 * t.f0) = 0) (g1 : upW (IntKind.i64.wrap ((IntKind.i64.wrap (p * r.f0.f1)) * r.f3.f1)) (IntKind.i64.wrap (100 * t.f0)) = u1) (m2 : ¬ IntKind.i64.wrap ((IntKind.i64.wrap (333 * r.f0.f0)) * t.f0) = 0) (g2 : upW (IntKind.i64.wrap ((IntKind.i64.wrap (500000 * f)) * 106)) (IntKind.i64.wrap ((IntKind.i64.wrap (333 * r.f0.f0)) * t.f0)) = u2) (m3 : ¬ t.f0 = 0) (g3 : upW (IntKind.i64.wrap (r.f4.f1 * s)) (t.f0) = u3) (w : World) :
    Calls Try.prog 89 #[ringV r, .agg #[.int .i64 t.f0, .int .i64 t.f1], .agg #[.int .i64 p, .int .i64 f, .int .i64 s, .int .i64 o]] w fun e w' => e = .returned (.agg #[.int .i64 (IntKind.i64.wrap ((IntKind.i64.wrap ((IntKind.i64.wrap (d1 + d2)) + d3)) + o)), .int .i64 (IntKind.i64.wrap ((IntKind.i64.wrap ((IntKind.i64.wrap (u1 + u2)) + u3)) + o))]) ∧ Below w.heap.size w w' := by
  have HB := Below.refl w.heap.size w
  have hu := Try.underlying82
  have hu2 := Try.underlying29
  have hu3 := Try.underlying27
  have HY := hid (And.intro n1 (And.intro e1 (And.intro n2 (And.intro e2 (And.intro n3 (And.intro e3 (And.intro m1 (And.intro g1 (And.intro m2 (And.intro g2 (And.intro m3 g3)))))))))))
  clear n1 e1 n2 e2 n3 e3 m1 g1 m2 g2 m3 g3
  unfold ringV
  go_enter Try.func89, Try.ntmps89
  go_wp2_with fail
  obtain ⟨n1, e1, n2, e2, n3, e3, m1, g1, m2, g2, m3, g3⟩ := HY.out
  refine wp_flow [[], [0], [], [2], [3, 2], [1, 0, 4, 3, 2], [], [6], [7, 6], [5, 1, 0, 4, 3, 2, 8, 7, 6], [], [10], [11, 10], [9, 5, 1, 0, 4, 3, 2, 8, 7, 6, 12, 11, 10], [], [14], [15, 14], [16, 15, 14], [], [18], [19, 18], [20, 19, 18], [], [22], [21, 20, 19, 18, 23, 22], [17, 16, 15, 14, 24, 21, 20, 19, 18, 23, 22, 13, 9, 5, 1, 0, 4, 3, 2, 8, 7, 6, 12, 11, 10], [13, 9, 5, 1, 0, 4, 3, 2, 8, 7, 6, 12, 11, 10, 25, 17, 16, 15, 14, 24, 21, 20, 19, 18, 23, 22], [], [27], [28, 27], [], [30], [29, 28, 27, 31, 30], [], [33], [32, 29, 28, 27, 31, 30, 34, 33, 25, 17, 16, 15, 14, 24, 21, 20, 19, 18, 23, 22, 13, 9, 5, 1, 0, 4, 3, 2, 8, 7, 6, 12, 11, 10], [26, 13, 9, 5, 1, 0, 4, 3, 2, 8, 7, 6, 12, 11, 10, 25, 17, 16, 15, 14, 24, 21, 20, 19, 18, 23, 22, 35, 32, 29, 28, 27, 31, 30, 34, 33], [], [37], [36, 26, 13, 9, 5, 1, 0, 4, 3, 2, 8, 7, 6, 12, 11, 10, 25, 17, 16, 15, 14, 24, 21, 20, 19, 18, 23, 22, 35, 32, 29, 28, 27, 31, 30, 34, 33, 38, 37], [39, 36, 26, 13, 9, 5, 1, 0, 4, 3, 2, 8, 7, 6, 12, 11, 10, 25, 17, 16, 15, 14, 24, 21, 20, 19, 18, 23, 22, 35, 32, 29, 28, 27, 31, 30, 34, 33, 38, 37]] 41
    (fun W => W.cell? ⟨w.heap.size, 0, none⟩ = some (.int .i64 r.f0.f0) ∧ W.cell? ⟨w.heap.size, 1, none⟩ = some (.int .i64 r.f0.f1) ∧ W.cell? ⟨w.heap.size, 2, none⟩ = some (.int .i64 r.f1.f0) ∧ W.cell? ⟨w.heap.size, 3, none⟩ = some (.int .i64 r.f1.f1) ∧ W.cell? ⟨w.heap.size, 4, none⟩ = some (.int .i64 r.f2.f0) ∧ W.cell? ⟨w.heap.size, 5, none⟩ = some (.int .i64 r.f2.f1) ∧ W.cell? ⟨w.heap.size, 6, none⟩ = some (.int .i64 r.f3.f0) ∧ W.cell? ⟨w.heap.size, 7, none⟩ = some (.int .i64 r.f3.f1) ∧ W.cell? ⟨w.heap.size, 8, none⟩ = some (.int .i64 r.f4.f0) ∧ W.cell? ⟨w.heap.size, 9, none⟩ = some (.int .i64 r.f4.f1) ∧ W.cell? ⟨(w.heap.size + 1), 0, none⟩ = some (.int .i64 t.f0) ∧ W.cell? ⟨(w.heap.size + 1), 1, none⟩ = some (.int .i64 t.f1) ∧ W.cell? ⟨(w.heap.size + 1 + 1), 0, none⟩ = some (.int .i64 p) ∧ W.cell? ⟨(w.heap.size + 1 + 1), 1, none⟩ = some (.int .i64 f) ∧ W.cell? ⟨(w.heap.size + 1 + 1), 2, none⟩ = some (.int .i64 s) ∧ W.cell? ⟨(w.heap.size + 1 + 1), 3, none⟩ = some (.int .i64 o) ∧ W.heap[w.heap.size + 1 + 1 + 1]? = some (.cells #[.int .i64 0, .int .i64 0] 29 (0, 0)) ∧ Below w.heap.size w W)
    { tmps := #[.agg #[.int .i64 r.f0.f0, .int .i64 r.f0.f1, .int .i64 r.f1.f0, .int .i64 r.f1.f1, .int .i64 r.f2.f0, .int .i64 r.f2.f1, .int .i64 r.f3.f0, .int .i64 r.f3.f1, .int .i64 r.f4.f0, .int .i64 r.f4.f1], .agg #[.int .i64 t.f0, .int .i64 t.f1], .agg #[.int .i64 p, .int .i64 f, .int .i64 s, .int .i64 o], .pointer (some ⟨w.heap.size, 0, none⟩), .pointer (some ⟨(w.heap.size + 1), 0, none⟩), .pointer (some ⟨(w.heap.size + 1 + 1), 0, none⟩), .pointer (some ⟨(w.heap.size + 1 + 1 + 1), 0, none⟩), .int .i64 (IntKind.i64.wrap ((IntKind.i64.wrap ((IntKind.i64.wrap (d1 + d2)) + d3)) + o)), undef, .pointer (some ⟨(w.heap.size + 1 + 1), 0, none⟩), .int .i64 p, .pointer (some ⟨w.heap.size, 0, none⟩), .pointer (some ⟨w.heap.size, 0, none⟩), .int .i64 r.f0.f0, .int .i64 (IntKind.i64.wrap (p * r.f0.f0)), .pointer (some ⟨w.heap.size, 6, none⟩), .pointer (some ⟨w.heap.size, 6, none⟩), .int .i64 r.f3.f0, .int .i64 (IntKind.i64.wrap ((IntKind.i64.wrap (p * r.f0.f0)) * r.f3.f0)), .pointer (some ⟨(w.heap.size + 1), 1, none⟩), .int .i64 t.f1, .int .i64 (IntKind.i64.wrap (100 * t.f1)), .int .i64 d1, .pointer (some ⟨(w.heap.size + 1 + 1), 1, none⟩), .int .i64 f, .int .i64 (IntKind.i64.wrap (500000 * f)), .int .i64 (IntKind.i64.wrap ((IntKind.i64.wrap (500000 * f)) * 113)), .pointer (some ⟨w.heap.size, 0, none⟩), .pointer (some ⟨w.heap.size, 1, none⟩), .int .i64 r.f0.f1, .int .i64 (IntKind.i64.wrap (355 * r.f0.f1)), .pointer (some ⟨(w.heap.size + 1), 1, none⟩), .int .i64 t.f1, .int .i64 (IntKind.i64.wrap ((IntKind.i64.wrap (355 * r.f0.f1)) * t.f1)), .int .i64 d2, .int .i64 (IntKind.i64.wrap (d1 + d2)), .pointer (some ⟨w.heap.size, 8, none⟩), .pointer (some ⟨w.heap.size, 8, none⟩), .int .i64 r.f4.f0, .pointer (some ⟨(w.heap.size + 1 + 1), 2, none⟩), .int .i64 s, .int .i64 (IntKind.i64.wrap (r.f4.f0 * s)), .pointer (some ⟨(w.heap.size + 1), 1, none⟩), .int .i64 t.f1, .int .i64 d3, .int .i64 (IntKind.i64.wrap ((IntKind.i64.wrap (d1 + d2)) + d3)), .pointer (some ⟨(w.heap.size + 1 + 1), 3, none⟩), .int .i64 o, .int .i64 (IntKind.i64.wrap ((IntKind.i64.wrap ((IntKind.i64.wrap (d1 + d2)) + d3)) + o)), undef, undef, undef, undef, undef, undef, undef, undef, undef, undef, undef, undef, undef, undef, undef, undef, undef, undef, undef, undef, undef, undef, undef, undef, undef, undef, undef, undef, undef, undef, undef, undef, undef, undef, undef, undef, undef, undef, undef, undef, undef, undef, undef], defers := [] }
    mixed (by kernel_rfl) rfl (Ahead.of [0, 1, 2, 3, 4, 5, 6, 8, 49, 50, 51, 52, 53, 54, 55, 56, 57, 58, 59, 60, 61, 62, 63, 64, 65, 66, 67, 68, 69, 70, 71, 72, 73, 74, 75, 76, 77, 78, 79, 80, 81, 82, 83, 84, 85, 86, 87, 88, 89, 90, 91] rfl rfl (by kernel_rfl) (by simp)) ?_ (AllFlow.ops rfl ?_) rfl ?_
  · exact ⟨by go_simp, by go_simp, by go_simp, by go_simp, by go_simp, by go_simp, by go_simp, by go_simp, by go_simp, by go_simp, by go_simp, by go_simp, by go_simp, by go_simp, by go_simp, by go_simp, alloc3_new, (((((HB.alloc (Nat.le_refl _) _).alloc (by simp) _).alloc (by simp; omega) _)).alloc (by simp; omega) _).drew⟩
  · refine ⟨?_, ?_, ?_, ?_, ?_, ?_, ?_, ?_, ?_, ?_, ?_, ?_, ?_, ?_, ?_, ?_, ?_, ?_, ?_, ?_, ?_, ?_, ?_, ?_, ?_, ?_, ?_, ?_, ?_, ?_, ?_, ?_, ?_, ?_, ?_, ?_, ?_, ?_, ?_, ?_, ?_, trivial⟩
    · exact .val 9 _ rfl rfl fun W ⟨c0, c1, c2, c3, c4, c5, c6, c7, c8, c9, c10, c11, c12, c13, c14, c15, x0, hB_⟩ => by go_simp
    · exact .val 10 _ rfl rfl fun W ⟨c0, c1, c2, c3, c4, c5, c6, c7, c8, c9, c10, c11, c12, c13, c14, c15, x0, hB_⟩ => by go_simp
    · exact .val 11 _ rfl rfl fun W ⟨c0, c1, c2, c3, c4, c5, c6, c7, c8, c9, c10, c11, c12, c13, c14, c15, x0, hB_⟩ => by go_simp
    · exact .val 12 _ rfl rfl fun W ⟨c0, c1, c2, c3, c4, c5, c6, c7, c8, c9, c10, c11, c12, c13, c14, c15, x0, hB_⟩ => by go_simp
    · exact .val 13 _ rfl rfl fun W ⟨c0, c1, c2, c3, c4, c5, c6, c7, c8, c9, c10, c11, c12, c13, c14, c15, x0, hB_⟩ => by go_simp
    · exact .val 14 _ rfl rfl fun W ⟨c0, c1, c2, c3, c4, c5, c6, c7, c8, c9, c10, c11, c12, c13, c14, c15, x0, hB_⟩ => by go_simp
    · exact .val 15 _ rfl rfl fun W ⟨c0, c1, c2, c3, c4, c5, c6, c7, c8, c9, c10, c11, c12, c13, c14, c15, x0, hB_⟩ => by go_simp
    · exact .val 16 _ rfl rfl fun W ⟨c0, c1, c2, c3, c4, c5, c6, c7, c8, c9, c10, c11, c12, c13, c14, c15, x0, hB_⟩ => by go_simp
    · exact .val 17 _ rfl rfl fun W ⟨c0, c1, c2, c3, c4, c5, c6, c7, c8, c9, c10, c11, c12, c13, c14, c15, x0, hB_⟩ => by go_simp
    · exact .val 18 _ rfl rfl fun W ⟨c0, c1, c2, c3, c4, c5, c6, c7, c8, c9, c10, c11, c12, c13, c14, c15, x0, hB_⟩ => by go_simp
    · exact .val 19 _ rfl rfl fun W ⟨c0, c1, c2, c3, c4, c5, c6, c7, c8, c9, c10, c11, c12, c13, c14, c15, x0, hB_⟩ => by go_simp
    · exact .val 20 _ rfl rfl fun W ⟨c0, c1, c2, c3, c4, c5, c6, c7, c8, c9, c10, c11, c12, c13, c14, c15, x0, hB_⟩ => by go_simp
    · exact .val 21 _ rfl rfl fun W ⟨c0, c1, c2, c3, c4, c5, c6, c7, c8, c9, c10, c11, c12, c13, c14, c15, x0, hB_⟩ => by go_simp
    · refine .call 22 (.int .i64 d1) 57 #[.int .i64 (IntKind.i64.wrap ((IntKind.i64.wrap (p * r.f0.f0)) * r.f3.f0)), .int .i64 (IntKind.i64.wrap (100 * t.f1))] rfl rfl (fun W ⟨c0, c1, c2, c3, c4, c5, c6, c7, c8, c9, c10, c11, c12, c13, c14, c15, x0, hB_⟩ => by go_simp) fun W ⟨c0, c1, c2, c3, c4, c5, c6, c7, c8, c9, c10, c11, c12, c13, c14, c15, x0, hB_⟩ => ?_
      refine (rdown_eq n1 e1 _).mono ?_
      rintro e w' ⟨rfl, hb⟩
      exact ⟨rfl, cell_grow c0 hb, cell_grow c1 hb, cell_grow c2 hb, cell_grow c3 hb, cell_grow c4 hb, cell_grow c5 hb, cell_grow c6 hb, cell_grow c7 hb, cell_grow c8 hb, cell_grow c9 hb, cell_grow c10 hb, cell_grow c11 hb, cell_grow c12 hb, cell_grow c13 hb, cell_grow c14 hb, cell_grow c15 hb, heap_grow x0 hb, hB_.trans (hb.mono hB_.size)⟩
    · exact .val 23 _ rfl rfl fun W ⟨c0, c1, c2, c3, c4, c5, c6, c7, c8, c9, c10, c11, c12, c13, c14, c15, x0, hB_⟩ => by go_simp
    · exact .val 24 _ rfl rfl fun W ⟨c0, c1, c2, c3, c4, c5, c6, c7, c8, c9, c10, c11, c12, c13, c14, c15, x0, hB_⟩ => by go_simp
    · exact .val 25 _ rfl rfl fun W ⟨c0, c1, c2, c3, c4, c5, c6, c7, c8, c9, c10, c11, c12, c13, c14, c15, x0, hB_⟩ => by go_simp
    · exact .val 26 _ rfl rfl fun W ⟨c0, c1, c2, c3, c4, c5, c6, c7, c8, c9, c10, c11, c12, c13, c14, c15, x0, hB_⟩ => by go_simp
    · exact .val 27 _ rfl rfl fun W ⟨c0, c1, c2, c3, c4, c5, c6, c7, c8, c9, c10, c11, c12, c13, c14, c15, x0, hB_⟩ => by go_simp
    · exact .val 28 _ rfl rfl fun W ⟨c0, c1, c2, c3, c4, c5, c6, c7, c8, c9, c10, c11, c12, c13, c14, c15, x0, hB_⟩ => by go_simp
    · exact .val 29 _ rfl rfl fun W ⟨c0, c1, c2, c3, c4, c5, c6, c7, c8, c9, c10, c11, c12, c13, c14, c15, x0, hB_⟩ => by go_simp
    · exact .val 30 _ rfl rfl fun W ⟨c0, c1, c2, c3, c4, c5, c6, c7, c8, c9, c10, c11, c12, c13, c14, c15, x0, hB_⟩ => by go_simp
    · exact .val 31 _ rfl rfl fun W ⟨c0, c1, c2, c3, c4, c5, c6, c7, c8, c9, c10, c11, c12, c13, c14, c15, x0, hB_⟩ => by go_simp
    · exact .val 32 _ rfl rfl fun W ⟨c0, c1, c2, c3, c4, c5, c6, c7, c8, c9, c10, c11, c12, c13, c14, c15, x0, hB_⟩ => by go_simp
    · exact .val 33 _ rfl rfl fun W ⟨c0, c1, c2, c3, c4, c5, c6, c7, c8, c9, c10, c11, c12, c13, c14, c15, x0, hB_⟩ => by go_simp
    · refine .call 34 (.int .i64 d2) 57 #[.int .i64 (IntKind.i64.wrap ((IntKind.i64.wrap (500000 * f)) * 113)), .int .i64 (IntKind.i64.wrap ((IntKind.i64.wrap (355 * r.f0.f1)) * t.f1))] rfl rfl (fun W ⟨c0, c1, c2, c3, c4, c5, c6, c7, c8, c9, c10, c11, c12, c13, c14, c15, x0, hB_⟩ => by go_simp) fun W ⟨c0, c1, c2, c3, c4, c5, c6, c7, c8, c9, c10, c11, c12, c13, c14, c15, x0, hB_⟩ => ?_
      refine (rdown_eq n2 e2 _).mono ?_
      rintro e w' ⟨rfl, hb⟩
      exact ⟨rfl, cell_grow c0 hb, cell_grow c1 hb, cell_grow c2 hb, cell_grow c3 hb, cell_grow c4 hb, cell_grow c5 hb, cell_grow c6 hb, cell_grow c7 hb, cell_grow c8 hb, cell_grow c9 hb, cell_grow c10 hb, cell_grow c11 hb, cell_grow c12 hb, cell_grow c13 hb, cell_grow c14 hb, cell_grow c15 hb, heap_grow x0 hb, hB_.trans (hb.mono hB_.size)⟩
    · exact .val 35 _ rfl rfl fun W ⟨c0, c1, c2, c3, c4, c5, c6, c7, c8, c9, c10, c11, c12, c13, c14, c15, x0, hB_⟩ => by go_simp
    · exact .val 36 _ rfl rfl fun W ⟨c0, c1, c2, c3, c4, c5, c6, c7, c8, c9, c10, c11, c12, c13, c14, c15, x0, hB_⟩ => by go_simp
    · exact .val 37 _ rfl rfl fun W ⟨c0, c1, c2, c3, c4, c5, c6, c7, c8, c9, c10, c11, c12, c13, c14, c15, x0, hB_⟩ => by go_simp
    · exact .val 38 _ rfl rfl fun W ⟨c0, c1, c2, c3, c4, c5, c6, c7, c8, c9, c10, c11, c12, c13, c14, c15, x0, hB_⟩ => by go_simp
    · exact .val 39 _ rfl rfl fun W ⟨c0, c1, c2, c3, c4, c5, c6, c7, c8, c9, c10, c11, c12, c13, c14, c15, x0, hB_⟩ => by go_simp
    · exact .val 40 _ rfl rfl fun W ⟨c0, c1, c2, c3, c4, c5, c6, c7, c8, c9, c10, c11, c12, c13, c14, c15, x0, hB_⟩ => by go_simp
    · exact .val 41 _ rfl rfl fun W ⟨c0, c1, c2, c3, c4, c5, c6, c7, c8, c9, c10, c11, c12, c13, c14, c15, x0, hB_⟩ => by go_simp
    · exact .val 42 _ rfl rfl fun W ⟨c0, c1, c2, c3, c4, c5, c6, c7, c8, c9, c10, c11, c12, c13, c14, c15, x0, hB_⟩ => by go_simp
    · exact .val 43 _ rfl rfl fun W ⟨c0, c1, c2, c3, c4, c5, c6, c7, c8, c9, c10, c11, c12, c13, c14, c15, x0, hB_⟩ => by go_simp
    · refine .call 44 (.int .i64 d3) 57 #[.int .i64 (IntKind.i64.wrap (r.f4.f0 * s)), .int .i64 t.f1] rfl rfl (fun W ⟨c0, c1, c2, c3, c4, c5, c6, c7, c8, c9, c10, c11, c12, c13, c14, c15, x0, hB_⟩ => by go_simp) fun W ⟨c0, c1, c2, c3, c4, c5, c6, c7, c8, c9, c10, c11, c12, c13, c14, c15, x0, hB_⟩ => ?_
      refine (rdown_eq n3 e3 _).mono ?_
      rintro e w' ⟨rfl, hb⟩
      exact ⟨rfl, cell_grow c0 hb, cell_grow c1 hb, cell_grow c2 hb, cell_grow c3 hb, cell_grow c4 hb, cell_grow c5 hb, cell_grow c6 hb, cell_grow c7 hb, cell_grow c8 hb, cell_grow c9 hb, cell_grow c10 hb, cell_grow c11 hb, cell_grow c12 hb, cell_grow c13 hb, cell_grow c14 hb, cell_grow c15 hb, heap_grow x0 hb, hB_.trans (hb.mono hB_.size)⟩
    · exact .val 45 _ rfl rfl fun W ⟨c0, c1, c2, c3, c4, c5, c6, c7, c8, c9, c10, c11, c12, c13, c14, c15, x0, hB_⟩ => by go_simp
    · exact .val 46 _ rfl rfl fun W ⟨c0, c1, c2, c3, c4, c5, c6, c7, c8, c9, c10, c11, c12, c13, c14, c15, x0, hB_⟩ => by go_simp
    · exact .val 47 _ rfl rfl fun W ⟨c0, c1, c2, c3, c4, c5, c6, c7, c8, c9, c10, c11, c12, c13, c14, c15, x0, hB_⟩ => by go_simp
    · exact .val 48 _ rfl rfl fun W ⟨c0, c1, c2, c3, c4, c5, c6, c7, c8, c9, c10, c11, c12, c13, c14, c15, x0, hB_⟩ => by go_simp
    · exact .val 7 _ rfl rfl fun W ⟨c0, c1, c2, c3, c4, c5, c6, c7, c8, c9, c10, c11, c12, c13, c14, c15, x0, hB_⟩ => by go_simp
  · rintro W ⟨c0, c1, c2, c3, c4, c5, c6, c7, c8, c9, c10, c11, c12, c13, c14, c15, x0, hB_⟩
    have HC := hid (And.intro c0 (And.intro c1 (And.intro c2 (And.intro c3 (And.intro c4 (And.intro c5 (And.intro c6 (And.intro c7 (And.intro c8 (And.intro c9 (And.intro c10 (And.intro c11 (And.intro c12 (And.intro c13 (And.intro c14 (And.intro c15 (And.intro x0 hB_)))))))))))))))))
    clear n1 e1 n2 e2 n3 e3 m1 g1 m2 g2 m3 g3 c0 c1 c2 c3 c4 c5 c6 c7 c8 c9 c10 c11 c12 c13 c14 c15 x0 hB_ HB
    go_wp2_with fail
    obtain ⟨c0, c1, c2, c3, c4, c5, c6, c7, c8, c9, c10, c11, c12, c13, c14, c15, x0, hB_⟩ := HC.out
    obtain ⟨n1, e1, n2, e2, n3, e3, m1, g1, m2, g2, m3, g3⟩ := HY.out
    refine wp_flow [[], [0], [], [2], [3, 2], [1, 0, 4, 3, 2], [], [6], [7, 6], [5, 1, 0, 4, 3, 2, 8, 7, 6], [], [10], [11, 10], [9, 5, 1, 0, 4, 3, 2, 8, 7, 6, 12, 11, 10], [], [14], [15, 14], [16, 15, 14], [], [18], [19, 18], [20, 19, 18], [], [22], [21, 20, 19, 18, 23, 22], [17, 16, 15, 14, 24, 21, 20, 19, 18, 23, 22, 13, 9, 5, 1, 0, 4, 3, 2, 8, 7, 6, 12, 11, 10], [13, 9, 5, 1, 0, 4, 3, 2, 8, 7, 6, 12, 11, 10, 25, 17, 16, 15, 14, 24, 21, 20, 19, 18, 23, 22], [], [27], [28, 27], [], [30], [29, 28, 27, 31, 30], [], [33], [32, 29, 28, 27, 31, 30, 34, 33, 25, 17, 16, 15, 14, 24, 21, 20, 19, 18, 23, 22, 13, 9, 5, 1, 0, 4, 3, 2, 8, 7, 6, 12, 11, 10], [26, 13, 9, 5, 1, 0, 4, 3, 2, 8, 7, 6, 12, 11, 10, 25, 17, 16, 15, 14, 24, 21, 20, 19, 18, 23, 22, 35, 32, 29, 28, 27, 31, 30, 34, 33], [], [37], [36, 26, 13, 9, 5, 1, 0, 4, 3, 2, 8, 7, 6, 12, 11, 10, 25, 17, 16, 15, 14, 24, 21, 20, 19, 18, 23, 22, 35, 32, 29, 28, 27, 31, 30, 34, 33, 38, 37], [39, 36, 26, 13, 9, 5, 1, 0, 4, 3, 2, 8, 7, 6, 12, 11, 10, 25, 17, 16, 15, 14, 24, 21, 20, 19, 18, 23, 22, 35, 32, 29, 28, 27, 31, 30, 34, 33, 38, 37]] 41
      (fun W => W.cell? ⟨w.heap.size, 0, none⟩ = some (.int .i64 r.f0.f0) ∧ W.cell? ⟨w.heap.size, 1, none⟩ = some (.int .i64 r.f0.f1) ∧ W.cell? ⟨w.heap.size, 2, none⟩ = some (.int .i64 r.f1.f0) ∧ W.cell? ⟨w.heap.size, 3, none⟩ = some (.int .i64 r.f1.f1) ∧ W.cell? ⟨w.heap.size, 4, none⟩ = some (.int .i64 r.f2.f0) ∧ W.cell? ⟨w.heap.size, 5, none⟩ = some (.int .i64 r.f2.f1) ∧ W.cell? ⟨w.heap.size, 6, none⟩ = some (.int .i64 r.f3.f0) ∧ W.cell? ⟨w.heap.size, 7, none⟩ = some (.int .i64 r.f3.f1) ∧ W.cell? ⟨w.heap.size, 8, none⟩ = some (.int .i64 r.f4.f0) ∧ W.cell? ⟨w.heap.size, 9, none⟩ = some (.int .i64 r.f4.f1) ∧ W.cell? ⟨(w.heap.size + 1), 0, none⟩ = some (.int .i64 t.f0) ∧ W.cell? ⟨(w.heap.size + 1), 1, none⟩ = some (.int .i64 t.f1) ∧ W.cell? ⟨(w.heap.size + 1 + 1), 0, none⟩ = some (.int .i64 p) ∧ W.cell? ⟨(w.heap.size + 1 + 1), 1, none⟩ = some (.int .i64 f) ∧ W.cell? ⟨(w.heap.size + 1 + 1), 2, none⟩ = some (.int .i64 s) ∧ W.cell? ⟨(w.heap.size + 1 + 1), 3, none⟩ = some (.int .i64 o) ∧ W.heap[w.heap.size + 1 + 1 + 1]? = some (.cells #[.int .i64 0, .int .i64 0] 29 (0, 0)) ∧ Below w.heap.size w W)
      { tmps := #[.agg #[.int .i64 r.f0.f0, .int .i64 r.f0.f1, .int .i64 r.f1.f0, .int .i64 r.f1.f1, .int .i64 r.f2.f0, .int .i64 r.f2.f1, .int .i64 r.f3.f0, .int .i64 r.f3.f1, .int .i64 r.f4.f0, .int .i64 r.f4.f1], .agg #[.int .i64 t.f0, .int .i64 t.f1], .agg #[.int .i64 p, .int .i64 f, .int .i64 s, .int .i64 o], .pointer (some ⟨w.heap.size, 0, none⟩), .pointer (some ⟨(w.heap.size + 1), 0, none⟩), .pointer (some ⟨(w.heap.size + 1 + 1), 0, none⟩), .pointer (some ⟨(w.heap.size + 1 + 1 + 1), 0, none⟩), .int .i64 (IntKind.i64.wrap ((IntKind.i64.wrap ((IntKind.i64.wrap (d1 + d2)) + d3)) + o)), .int .i64 (IntKind.i64.wrap ((IntKind.i64.wrap ((IntKind.i64.wrap (u1 + u2)) + u3)) + o)), .pointer (some ⟨(w.heap.size + 1 + 1), 0, none⟩), .int .i64 p, .pointer (some ⟨w.heap.size, 0, none⟩), .pointer (some ⟨w.heap.size, 0, none⟩), .int .i64 r.f0.f0, .int .i64 (IntKind.i64.wrap (p * r.f0.f0)), .pointer (some ⟨w.heap.size, 6, none⟩), .pointer (some ⟨w.heap.size, 6, none⟩), .int .i64 r.f3.f0, .int .i64 (IntKind.i64.wrap ((IntKind.i64.wrap (p * r.f0.f0)) * r.f3.f0)), .pointer (some ⟨(w.heap.size + 1), 1, none⟩), .int .i64 t.f1, .int .i64 (IntKind.i64.wrap (100 * t.f1)), .int .i64 d1, .pointer (some ⟨(w.heap.size + 1 + 1), 1, none⟩), .int .i64 f, .int .i64 (IntKind.i64.wrap (500000 * f)), .int .i64 (IntKind.i64.wrap ((IntKind.i64.wrap (500000 * f)) * 113)), .pointer (some ⟨w.heap.size, 0, none⟩), .pointer (some ⟨w.heap.size, 1, none⟩), .int .i64 r.f0.f1, .int .i64 (IntKind.i64.wrap (355 * r.f0.f1)), .pointer (some ⟨(w.heap.size + 1), 1, none⟩), .int .i64 t.f1, .int .i64 (IntKind.i64.wrap ((IntKind.i64.wrap (355 * r.f0.f1)) * t.f1)), .int .i64 d2, .int .i64 (IntKind.i64.wrap (d1 + d2)), .pointer (some ⟨w.heap.size, 8, none⟩), .pointer (some ⟨w.heap.size, 8, none⟩), .int .i64 r.f4.f0, .pointer (some ⟨(w.heap.size + 1 + 1), 2, none⟩), .int .i64 s, .int .i64 (IntKind.i64.wrap (r.f4.f0 * s)), .pointer (some ⟨(w.heap.size + 1), 1, none⟩), .int .i64 t.f1, .int .i64 d3, .int .i64 (IntKind.i64.wrap ((IntKind.i64.wrap (d1 + d2)) + d3)), .pointer (some ⟨(w.heap.size + 1 + 1), 3, none⟩), .int .i64 o, .int .i64 (IntKind.i64.wrap ((IntKind.i64.wrap ((IntKind.i64.wrap (d1 + d2)) + d3)) + o)), .pointer (some ⟨(w.heap.size + 1 + 1), 0, none⟩), .int .i64 p, .pointer (some ⟨w.heap.size, 0, none⟩), .pointer (some ⟨w.heap.size, 1, none⟩), .int .i64 r.f0.f1, .int .i64 (IntKind.i64.wrap (p * r.f0.f1)), .pointer (some ⟨w.heap.size, 6, none⟩), .pointer (some ⟨w.heap.size, 7, none⟩), .int .i64 r.f3.f1, .int .i64 (IntKind.i64.wrap ((IntKind.i64.wrap (p * r.f0.f1)) * r.f3.f1)), .pointer (some ⟨(w.heap.size + 1), 0, none⟩), .int .i64 t.f0, .int .i64 (IntKind.i64.wrap (100 * t.f0)), .int .i64 u1, .pointer (some ⟨(w.heap.size + 1 + 1), 1, none⟩), .int .i64 f, .int .i64 (IntKind.i64.wrap (500000 * f)), .int .i64 (IntKind.i64.wrap ((IntKind.i64.wrap (500000 * f)) * 106)), .pointer (some ⟨w.heap.size, 0, none⟩), .pointer (some ⟨w.heap.size, 0, none⟩), .int .i64 r.f0.f0, .int .i64 (IntKind.i64.wrap (333 * r.f0.f0)), .pointer (some ⟨(w.heap.size + 1), 0, none⟩), .int .i64 t.f0, .int .i64 (IntKind.i64.wrap ((IntKind.i64.wrap (333 * r.f0.f0)) * t.f0)), .int .i64 u2, .int .i64 (IntKind.i64.wrap (u1 + u2)), .pointer (some ⟨w.heap.size, 8, none⟩), .pointer (some ⟨w.heap.size, 9, none⟩), .int .i64 r.f4.f1, .pointer (some ⟨(w.heap.size + 1 + 1), 2, none⟩), .int .i64 s, .int .i64 (IntKind.i64.wrap (r.f4.f1 * s)), .pointer (some ⟨(w.heap.size + 1), 0, none⟩), .int .i64 t.f0, .int .i64 u3, .int .i64 (IntKind.i64.wrap ((IntKind.i64.wrap (u1 + u2)) + u3)), .pointer (some ⟨(w.heap.size + 1 + 1), 3, none⟩), .int .i64 o, .int .i64 (IntKind.i64.wrap ((IntKind.i64.wrap ((IntKind.i64.wrap (u1 + u2)) + u3)) + o)), undef, undef, undef], defers := [] }
      mixed (by kernel_rfl) rfl (Ahead.of [0, 1, 2, 3, 4, 5, 6, 7, 9, 10, 11, 12, 13, 14, 15, 16, 17, 18, 19, 20, 21, 22, 23, 24, 25, 26, 27, 28, 29, 30, 31, 32, 33, 34, 35, 36, 37, 38, 39, 40, 41, 42, 43, 44, 45, 46, 47, 48, 89, 90, 91] rfl rfl (by kernel_rfl) (by simp)) ?_ (AllFlow.ops rfl ?_) rfl ?_
    · exact ⟨drew_cell c0, drew_cell c1, drew_cell c2, drew_cell c3, drew_cell c4, drew_cell c5, drew_cell c6, drew_cell c7, drew_cell c8, drew_cell c9, drew_cell c10, drew_cell c11, drew_cell c12, drew_cell c13, drew_cell c14, drew_cell c15, drew_heap x0, hB_.drew⟩
    · refine ⟨?_, ?_, ?_, ?_, ?_, ?_, ?_, ?_, ?_, ?_, ?_, ?_, ?_, ?_, ?_, ?_, ?_, ?_, ?_, ?_, ?_, ?_, ?_, ?_, ?_, ?_, ?_, ?_, ?_, ?_, ?_, ?_, ?_, ?_, ?_, ?_, ?_, ?_, ?_, ?_, ?_, trivial⟩
      · exact .val 49 _ rfl rfl fun W ⟨c0, c1, c2, c3, c4, c5, c6, c7, c8, c9, c10, c11, c12, c13, c14, c15, x0, hB_⟩ => by go_simp
      · exact .val 50 _ rfl rfl fun W ⟨c0, c1, c2, c3, c4, c5, c6, c7, c8, c9, c10, c11, c12, c13, c14, c15, x0, hB_⟩ => by go_simp
      · exact .val 51 _ rfl rfl fun W ⟨c0, c1, c2, c3, c4, c5, c6, c7, c8, c9, c10, c11, c12, c13, c14, c15, x0, hB_⟩ => by go_simp
      · exact .val 52 _ rfl rfl fun W ⟨c0, c1, c2, c3, c4, c5, c6, c7, c8, c9, c10, c11, c12, c13, c14, c15, x0, hB_⟩ => by go_simp
      · exact .val 53 _ rfl rfl fun W ⟨c0, c1, c2, c3, c4, c5, c6, c7, c8, c9, c10, c11, c12, c13, c14, c15, x0, hB_⟩ => by go_simp
      · exact .val 54 _ rfl rfl fun W ⟨c0, c1, c2, c3, c4, c5, c6, c7, c8, c9, c10, c11, c12, c13, c14, c15, x0, hB_⟩ => by go_simp
      · exact .val 55 _ rfl rfl fun W ⟨c0, c1, c2, c3, c4, c5, c6, c7, c8, c9, c10, c11, c12, c13, c14, c15, x0, hB_⟩ => by go_simp
      · exact .val 56 _ rfl rfl fun W ⟨c0, c1, c2, c3, c4, c5, c6, c7, c8, c9, c10, c11, c12, c13, c14, c15, x0, hB_⟩ => by go_simp
      · exact .val 57 _ rfl rfl fun W ⟨c0, c1, c2, c3, c4, c5, c6, c7, c8, c9, c10, c11, c12, c13, c14, c15, x0, hB_⟩ => by go_simp
      · exact .val 58 _ rfl rfl fun W ⟨c0, c1, c2, c3, c4, c5, c6, c7, c8, c9, c10, c11, c12, c13, c14, c15, x0, hB_⟩ => by go_simp
      · exact .val 59 _ rfl rfl fun W ⟨c0, c1, c2, c3, c4, c5, c6, c7, c8, c9, c10, c11, c12, c13, c14, c15, x0, hB_⟩ => by go_simp
      · exact .val 60 _ rfl rfl fun W ⟨c0, c1, c2, c3, c4, c5, c6, c7, c8, c9, c10, c11, c12, c13, c14, c15, x0, hB_⟩ => by go_simp
      · exact .val 61 _ rfl rfl fun W ⟨c0, c1, c2, c3, c4, c5, c6, c7, c8, c9, c10, c11, c12, c13, c14, c15, x0, hB_⟩ => by go_simp
      · refine .call 62 (.int .i64 u1) 58 #[.int .i64 (IntKind.i64.wrap ((IntKind.i64.wrap (p * r.f0.f1)) * r.f3.f1)), .int .i64 (IntKind.i64.wrap (100 * t.f0))] rfl rfl (fun W ⟨c0, c1, c2, c3, c4, c5, c6, c7, c8, c9, c10, c11, c12, c13, c14, c15, x0, hB_⟩ => by go_simp) fun W ⟨c0, c1, c2, c3, c4, c5, c6, c7, c8, c9, c10, c11, c12, c13, c14, c15, x0, hB_⟩ => ?_
        refine (rup_eq m1 g1 _).mono ?_
        rintro e w' ⟨rfl, hb⟩
        exact ⟨rfl, cell_grow c0 hb, cell_grow c1 hb, cell_grow c2 hb, cell_grow c3 hb, cell_grow c4 hb, cell_grow c5 hb, cell_grow c6 hb, cell_grow c7 hb, cell_grow c8 hb, cell_grow c9 hb, cell_grow c10 hb, cell_grow c11 hb, cell_grow c12 hb, cell_grow c13 hb, cell_grow c14 hb, cell_grow c15 hb, heap_grow x0 hb, hB_.trans (hb.mono hB_.size)⟩
      · exact .val 63 _ rfl rfl fun W ⟨c0, c1, c2, c3, c4, c5, c6, c7, c8, c9, c10, c11, c12, c13, c14, c15, x0, hB_⟩ => by go_simp
      · exact .val 64 _ rfl rfl fun W ⟨c0, c1, c2, c3, c4, c5, c6, c7, c8, c9, c10, c11, c12, c13, c14, c15, x0, hB_⟩ => by go_simp
      · exact .val 65 _ rfl rfl fun W ⟨c0, c1, c2, c3, c4, c5, c6, c7, c8, c9, c10, c11, c12, c13, c14, c15, x0, hB_⟩ => by go_simp
      · exact .val 66 _ rfl rfl fun W ⟨c0, c1, c2, c3, c4, c5, c6, c7, c8, c9, c10, c11, c12, c13, c14, c15, x0, hB_⟩ => by go_simp
      · exact .val 67 _ rfl rfl fun W ⟨c0, c1, c2, c3, c4, c5, c6, c7, c8, c9, c10, c11, c12, c13, c14, c15, x0, hB_⟩ => by go_simp
      · exact .val 68 _ rfl rfl fun W ⟨c0, c1, c2, c3, c4, c5, c6, c7, c8, c9, c10, c11, c12, c13, c14, c15, x0, hB_⟩ => by go_simp
      · exact .val 69 _ rfl rfl fun W ⟨c0, c1, c2, c3, c4, c5, c6, c7, c8, c9, c10, c11, c12, c13, c14, c15, x0, hB_⟩ => by go_simp
      · exact .val 70 _ rfl rfl fun W ⟨c0, c1, c2, c3, c4, c5, c6, c7, c8, c9, c10, c11, c12, c13, c14, c15, x0, hB_⟩ => by go_simp
      · exact .val 71 _ rfl rfl fun W ⟨c0, c1, c2, c3, c4, c5, c6, c7, c8, c9, c10, c11, c12, c13, c14, c15, x0, hB_⟩ => by go_simp
      · exact .val 72 _ rfl rfl fun W ⟨c0, c1, c2, c3, c4, c5, c6, c7, c8, c9, c10, c11, c12, c13, c14, c15, x0, hB_⟩ => by go_simp
      · exact .val 73 _ rfl rfl fun W ⟨c0, c1, c2, c3, c4, c5, c6, c7, c8, c9, c10, c11, c12, c13, c14, c15, x0, hB_⟩ => by go_simp
      · refine .call 74 (.int .i64 u2) 58 #[.int .i64 (IntKind.i64.wrap ((IntKind.i64.wrap (500000 * f)) * 106)), .int .i64 (IntKind.i64.wrap ((IntKind.i64.wrap (333 * r.f0.f0)) * t.f0))] rfl rfl (fun W ⟨c0, c1, c2, c3, c4, c5, c6, c7, c8, c9, c10, c11, c12, c13, c14, c15, x0, hB_⟩ => by go_simp) fun W ⟨c0, c1, c2, c3, c4, c5, c6, c7, c8, c9, c10, c11, c12, c13, c14, c15, x0, hB_⟩ => ?_
        refine (rup_eq m2 g2 _).mono ?_
        rintro e w' ⟨rfl, hb⟩
        exact ⟨rfl, cell_grow c0 hb, cell_grow c1 hb, cell_grow c2 hb, cell_grow c3 hb, cell_grow c4 hb, cell_grow c5 hb, cell_grow c6 hb, cell_grow c7 hb, cell_grow c8 hb, cell_grow c9 hb, cell_grow c10 hb, cell_grow c11 hb, cell_grow c12 hb, cell_grow c13 hb, cell_grow c14 hb, cell_grow c15 hb, heap_grow x0 hb, hB_.trans (hb.mono hB_.size)⟩
      · exact .val 75 _ rfl rfl fun W ⟨c0, c1, c2, c3, c4, c5, c6, c7, c8, c9, c10, c11, c12, c13, c14, c15, x0, hB_⟩ => by go_simp
      · exact .val 76 _ rfl rfl fun W ⟨c0, c1, c2, c3, c4, c5, c6, c7, c8, c9, c10, c11, c12, c13, c14, c15, x0, hB_⟩ => by go_simp
      · exact .val 77 _ rfl rfl fun W ⟨c0, c1, c2, c3, c4, c5, c6, c7, c8, c9, c10, c11, c12, c13, c14, c15, x0, hB_⟩ => by go_simp
      · exact .val 78 _ rfl rfl fun W ⟨c0, c1, c2, c3, c4, c5, c6, c7, c8, c9, c10, c11, c12, c13, c14, c15, x0, hB_⟩ => by go_simp
      · exact .val 79 _ rfl rfl fun W ⟨c0, c1, c2, c3, c4, c5, c6, c7, c8, c9, c10, c11, c12, c13, c14, c15, x0, hB_⟩ => by go_simp
      · exact .val 80 _ rfl rfl fun W ⟨c0, c1, c2, c3, c4, c5, c6, c7, c8, c9, c10, c11, c12, c13, c14, c15, x0, hB_⟩ => by go_simp
      · exact .val 81 _ rfl rfl fun W ⟨c0, c1, c2, c3, c4, c5, c6, c7, c8, c9, c10, c11, c12, c13, c14, c15, x0, hB_⟩ => by go_simp
      · exact .val 82 _ rfl rfl fun W ⟨c0, c1, c2, c3, c4, c5, c6, c7, c8, c9, c10, c11, c12, c13, c14, c15, x0, hB_⟩ => by go_simp
      · exact .val 83 _ rfl rfl fun W ⟨c0, c1, c2, c3, c4, c5, c6, c7, c8, c9, c10, c11, c12, c13, c14, c15, x0, hB_⟩ => by go_simp
      · refine .call 84 (.int .i64 u3) 58 #[.int .i64 (IntKind.i64.wrap (r.f4.f1 * s)), .int .i64 t.f0] rfl rfl (fun W ⟨c0, c1, c2, c3, c4, c5, c6, c7, c8, c9, c10, c11, c12, c13, c14, c15, x0, hB_⟩ => by go_simp) fun W ⟨c0, c1, c2, c3, c4, c5, c6, c7, c8, c9, c10, c11, c12, c13, c14, c15, x0, hB_⟩ => ?_
        refine (rup_eq m3 g3 _).mono ?_
        rintro e w' ⟨rfl, hb⟩
        exact ⟨rfl, cell_grow c0 hb, cell_grow c1 hb, cell_grow c2 hb, cell_grow c3 hb, cell_grow c4 hb, cell_grow c5 hb, cell_grow c6 hb, cell_grow c7 hb, cell_grow c8 hb, cell_grow c9 hb, cell_grow c10 hb, cell_grow c11 hb, cell_grow c12 hb, cell_grow c13 hb, cell_grow c14 hb, cell_grow c15 hb, heap_grow x0 hb, hB_.trans (hb.mono hB_.size)⟩
      · exact .val 85 _ rfl rfl fun W ⟨c0, c1, c2, c3, c4, c5, c6, c7, c8, c9, c10, c11, c12, c13, c14, c15, x0, hB_⟩ => by go_simp
      · exact .val 86 _ rfl rfl fun W ⟨c0, c1, c2, c3, c4, c5, c6, c7, c8, c9, c10, c11, c12, c13, c14, c15, x0, hB_⟩ => by go_simp
      · exact .val 87 _ rfl rfl fun W ⟨c0, c1, c2, c3, c4, c5, c6, c7, c8, c9, c10, c11, c12, c13, c14, c15, x0, hB_⟩ => by go_simp
      · exact .val 88 _ rfl rfl fun W ⟨c0, c1, c2, c3, c4, c5, c6, c7, c8, c9, c10, c11, c12, c13, c14, c15, x0, hB_⟩ => by go_simp
      · exact .val 8 _ rfl rfl fun W ⟨c0, c1, c2, c3, c4, c5, c6, c7, c8, c9, c10, c11, c12, c13, c14, c15, x0, hB_⟩ => by go_simp
    · rintro W2 ⟨c0, c1, c2, c3, c4, c5, c6, c7, c8, c9, c10, c11, c12, c13, c14, c15, x0, hB_⟩
      have z0 := blkCell x0 0
      have z1 := blkCell x0 1
      have z2 := blkFrozen x0 0
      have z3 := blkFrozen x0 1
      simp at z0 z1
      have HW := hid hB_
      clear hB_ x0 c0 c1 c2 c3 c4 c5 c6 c7 c8 c9 c10 c11 c12 c13 c14 c15 n1 e1 n2 e2 n3 e3 m1 g1 m2 g2 m3 g3
      go_wp2
      refine bodyPost_ret (v := .agg #[.int .i64 (IntKind.i64.wrap ((IntKind.i64.wrap ((IntKind.i64.wrap (d1 + d2)) + d3)) + o)), .int .i64 (IntKind.i64.wrap ((IntKind.i64.wrap ((IntKind.i64.wrap (u1 + u2)) + u3)) + o))]) (by simp [results, Try.results89, go_sem, z0, z1]; refine ⟨?_, ?_⟩ <;> simp only [wrap_i]) rfl ⟨rfl, ?_⟩
      exact (HW.out.setCell (p := ⟨w.heap.size + 1 + 1 + 1, 0, none⟩) (by simp; omega) _).setCell (p := ⟨w.heap.size + 1 + 1 + 1, 1, none⟩) (by simp; omega) _
theorem wrap64_twice (n : Int) : wrap64 (wrap64 n) = wrap64 n := by unfold wrap64; omega
theorem refstress_any (r : S82) (t : S29) (p f s o : Int) (w : World) (hr : ringOk r = true) (ht : okThick t = true) (hl : loadOk p f s o = true) :
    Calls Try.prog 89 #[ringV r, .agg #[.int .i64 t.f0, .int .i64 t.f1], .agg #[.int .i64 p, .int .i64 f, .int .i64 s, .int .i64 o]] w fun e w' => e = .returned (.agg #[.int .i64 (stLo r t p f s o), .int .i64 (stHi r t p f s o)]) ∧ Below w.heap.size w w' := by
  obtain ⟨h1, h2, h3, h4, h5, h6⟩ := stress_div hr ht
  obtain ⟨e1, e2, _⟩ := stress_ex hr ht hl
  have k1 : wrap64 (a1 r t p f s o) = a1 r t p f s o := by unfold a1 downW; exact wrap64_twice _
  have k2 : wrap64 (b1 r t p f s o) = b1 r t p f s o := by unfold b1 upW; exact wrap64_twice _
  have := refstress_walk r t p f s o (a1 r t p f s o) (a2 r t p f s o) (a3 r t p f s o) (b1 r t p f s o) (b2 r t p f s o) (b3 r t p f s o)
    (by simp only [wrap_i]; exact h1) (by simp only [wrap_i]; rfl) (by simp only [wrap_i]; exact h3) (by simp only [wrap_i]; rfl) h5 rfl
    (by simp only [wrap_i]; exact h2) (by simp only [wrap_i]; rfl) (by simp only [wrap_i]; exact h4) (by simp only [wrap_i]; rfl) h6 rfl w
  simp only [wrap_i] at this
  rw [← e1, ← e2]
  simp only [accLo, accHi, k1, k2]
  exact this
end Go.Proofs.Ythoofldinnfpiaa
namespace Go.Proofs.Ythoofldinnfpiaa
open Go.RowKit Go.Proofs.YthoofldinnfpiaaW.PrintWords Go.Proofs.YthoofldinnfpiaaW.PrintLast Go.Proofs.YthoofldinnfpiaaW.PrintMore
open Q Go.Shelf
attribute [local go_sem] Oper.semAt_some wide_depth wide_fn
set_option linter.unusedVariables false
theorem le_not (a m : Int) : decide (a ≤ m) = !decide (m < a) := by by_cases h : m < a <;> simp [h] <;> omega
theorem bears_any (A : Option Addr) (c : Nat) (l : List S82) (fl tg x : Int) (w : World) (hr : Kd.C k82 w A l.length l) (hc : l.length ≤ c) (h1 : 1 ≤ fl) (h3 : 0 ≤ tg) (h4 : tg ≤ 1000000000000000) (hx : 0 ≤ x) :
    Calls Try.prog 113 #[.agg #[.slice A l.length c, .int .i64 fl, .int .i64 tg], .int .i64 x] w fun e w' => e = .returned (.bool (decide (x ≤ limitOf fl tg))) ∧ Below w.heap.size w w' := by
  refine culletref05_bears.calls A c l fl tg x _ w hr hc ?_
  have hq0 := Int.ediv_nonneg h3 (show 0 ≤ fl by omega)
  have hq1 := Int.ediv_le_self fl h3
  obtain ⟨hb, hb1, hb2⟩ := limit_bears h1 h3 h4 hx
  unfold culletref05_bears.f
  by_cases hlt : x < 100000000
  · have hm := mul_nn_le hx (show x ≤ 100000000 by omega) hx (show x ≤ 100000000 by omega)
    rw [if_pos hlt, if_neg (by omega), Int.tdiv_eq_ediv_of_nonneg h3, wrap64_id (n := x * x) (by omega) (by omega), wrap64_id (n := tg / fl) (by omega) (by omega)]
    congr 1
    exact decide_eq_decide.2 hb.symm
  · rw [if_neg hlt, decide_eq_false (by omega)]
def BothL (w : World) (ar : Addr) (c : Nat) (l : List S82) (fl tg p f s o : Int) (W : World) : Prop :=
  W.heap[w.heap.size]? = some (.cells #[.slice (some ar) l.length c, .int .i64 fl, .int .i64 tg] 24 (0, 0)) ∧ W.heap[w.heap.size + 1]? = some (.cells #[.int .i64 p, .int .i64 f, .int .i64 s, .int .i64 o] 27 (0, 0)) ∧ Below w.heap.size w W
set_option maxRecDepth 100000 in
set_option maxHeartbeats 4000000 in
theorem both_any (A : Option Addr) (c : Nat) (l : List S82) (fl tg : Int) (A0 : Option Addr) (cT : Nat) (th : List S29) (p f s o : Int) (w : World) (hr : Kd.C k82 w A l.length l) (hc : l.length ≤ c) (hr0 : Kd.C k29 w A0 th.length th)
    (hk : checkOf l fl tg = 0) (ht : th.all okThick = true) (hn : th.length = l.length) (hl : loadOk p f s o = true) :
    Calls Try.prog 90 #[.agg #[.slice A l.length c, .int .i64 fl, .int .i64 tg], .slice A0 th.length cT, .agg #[.int .i64 p, .int .i64 f, .int .i64 s, .int .i64 o]] w fun e w' => e = .returned (.tuple #[.bool (yesOf (limitOf fl tg) p f s o (l.zip th)), .bool (brkOf (limitOf fl tg) p f s o (l.zip th))]) ∧ Below w.heap.size w w' := by
  have HB := Below.refl w.heap.size w
  obtain ⟨k1, k2, hall, _, _, k3, k4, k5, k6⟩ := check_zero hk
  obtain ⟨ad, rfl⟩ : ∃ ad, A0 = some ad := by
    obtain ⟨ad, h, _⟩ := at_T29 hr0 0 (by omega) (by omega)
    exact ⟨ad, h⟩
  obtain ⟨ar, rfl⟩ : ∃ ar, A = some ar := by
    obtain ⟨ar, h, _⟩ := at_T82 hr 0 (by omega) (by omega)
    exact ⟨ar, h⟩
  have HK := hid (And.intro k1 (And.intro k2 (And.intro hall (And.intro k3 (And.intro k4 (And.intro k5 k6))))))
  have HN := hid hn
  have hu24 := Try.underlying24
  have hu27 := Try.underlying27
  have hu29 := Try.underlying29
  have hu82 := Try.underlying82
  clear k1 k2 hall k3 k4 k5 k6 hn
  go_enter Try.func90, Try.ntmps90
  go_wp2
  go_loopw [8, 9, 10] (fun v8 v9 v10 X => ∃ k : Nat, k ≤ th.length ∧ v8 = .bool (yesOf (limitOf fl tg) p f s o ((l.zip th).take k)) ∧ v9 = .bool (brkOf (limitOf fl tg) p f s o ((l.zip th).take k)) ∧ v10 = .int .i64 k ∧ Hid (BothL w ar c l fl tg p f s o X)) (fun _ _ v10 _ => th.length - (intOf v10).toNat)
  case atStart =>
    have e0 := alloc_old (o' := .cells #[.int .i64 p, .int .i64 f, .int .i64 s, .int .i64 o] 27) (World.alloc_heap_new w (.cells #[.slice (some ar) l.length c, .int .i64 fl, .int .i64 tg] 24))
    have e1 := World.alloc_heap_new (w.alloc (.cells #[.slice (some ar) l.length c, .int .i64 fl, .int .i64 tg] 24)) (.cells #[.int .i64 p, .int .i64 f, .int .i64 s, .int .i64 o] 27)
    rw [World.size_alloc] at e1
    exact ⟨0, by omega, rfl, rfl, rfl, hid ⟨e0, e1, (HB.alloc (Nat.le_refl _) _).alloc (by simp) _⟩⟩
  case round =>
    obtain ⟨k, hkl, rfl, rfl, rfl, HL⟩ := hrel
    obtain ⟨y, hy⟩ : ∃ y, yesOf (limitOf fl tg) p f s o ((l.zip th).take k) = y := ⟨_, rfl⟩
    obtain ⟨b, hb⟩ : ∃ b, brkOf (limitOf fl tg) p f s o ((l.zip th).take k) = b := ⟨_, rfl⟩
    rw [hy, hb]
    by_cases hlt' : k < th.length
    · have hlt : k < l.length := by rw [← HN.out]; exact hlt'
      go_wp2_with fail
      have hL := HL.out
      have hth' := at_T29 (Kd.C_below hr0 hL.2.2) k (by omega) (by omega)
      have hrd : rd_T29 th (k : Int) = th[k] := by simp [rd_T29, List.getD, hlt']
      rw [hrd] at hth'
      simp only [Int.toNat_natCast] at hth'
      obtain ⟨ad', had', t0, t1⟩ := hth'
      cases had'
      have hri := at_T82 (Kd.C_below hr hL.2.2) k (by omega) (by omega)
      rw [rd82 hlt] at hri
      simp only [Int.toNat_natCast] at hri
      obtain ⟨ar', har', r0, r1, r2, r3, r4, r5, r6, r7, r8, r9⟩ := hri
      cases har'
      have hr1 := all_get HK.out.2.2.1 hlt
      have ht1 : okThick th[k] = true := List.all_eq_true.1 ht _ (List.getElem_mem hlt')
      have hl1 := hl
      refine wp_flow3 [[], [0], [], [1, 0, 2], [3, 1, 0, 2], [], [], [5, 6], [7, 5, 6], [], [4, 3, 1, 0, 2, 8, 7, 5, 6, 9], [], [11, 10, 4, 3, 1, 0, 2, 8, 7, 5, 6, 9]] 11
        (fun W => W.cell? ⟨w.heap.size, 0, none⟩ = some (.slice (some ar) l.length c) ∧ W.cell? ⟨w.heap.size, 1, none⟩ = some (.int .i64 fl) ∧ W.cell? ⟨w.heap.size, 2, none⟩ = some (.int .i64 tg) ∧ W.cell? ⟨(w.heap.size + 1), 0, none⟩ = some (.int .i64 p) ∧ W.cell? ⟨(w.heap.size + 1), 1, none⟩ = some (.int .i64 f) ∧ W.cell? ⟨(w.heap.size + 1), 2, none⟩ = some (.int .i64 s) ∧ W.cell? ⟨(w.heap.size + 1), 3, none⟩ = some (.int .i64 o) ∧ W.cell? (ar.add (k * 10)) = some (.int .i64 l[k].f0.f0) ∧ W.cell? ⟨(ar.add (k * 10)).block, (ar.add (k * 10)).off + 1, none⟩ = some (.int .i64 l[k].f0.f1) ∧ W.cell? ⟨(ar.add (k * 10)).block, (ar.add (k * 10)).off + 2, none⟩ = some (.int .i64 l[k].f1.f0) ∧ W.cell? ⟨(ar.add (k * 10)).block, (ar.add (k * 10)).off + 3, none⟩ = some (.int .i64 l[k].f1.f1) ∧ W.cell? ⟨(ar.add (k * 10)).block, (ar.add (k * 10)).off + 4, none⟩ = some (.int .i64 l[k].f2.f0) ∧ W.cell? ⟨(ar.add (k * 10)).block, (ar.add (k * 10)).off + 5, none⟩ = some (.int .i64 l[k].f2.f1) ∧ W.cell? ⟨(ar.add (k * 10)).block, (ar.add (k * 10)).off + 6, none⟩ = some (.int .i64 l[k].f3.f0) ∧ W.cell? ⟨(ar.add (k * 10)).block, (ar.add (k * 10)).off + 7, none⟩ = some (.int .i64 l[k].f3.f1) ∧ W.cell? ⟨(ar.add (k * 10)).block, (ar.add (k * 10)).off + 8, none⟩ = some (.int .i64 l[k].f4.f0) ∧ W.cell? ⟨(ar.add (k * 10)).block, (ar.add (k * 10)).off + 9, none⟩ = some (.int .i64 l[k].f4.f1) ∧ W.cell? (ad.add (k * 2)) = some (.int .i64 th[k].f0) ∧ W.cell? ⟨(ad.add (k * 2)).block, (ad.add (k * 2)).off + 1, none⟩ = some (.int .i64 th[k].f1) ∧ Below wr.heap.size wr W)
        (fun u W => (W.cell? ⟨w.heap.size, 0, none⟩ = some (.slice (some ar) l.length c) ∧ W.cell? ⟨w.heap.size, 1, none⟩ = some (.int .i64 fl) ∧ W.cell? ⟨w.heap.size, 2, none⟩ = some (.int .i64 tg) ∧ W.cell? ⟨(w.heap.size + 1), 0, none⟩ = some (.int .i64 p) ∧ W.cell? ⟨(w.heap.size + 1), 1, none⟩ = some (.int .i64 f) ∧ W.cell? ⟨(w.heap.size + 1), 2, none⟩ = some (.int .i64 s) ∧ W.cell? ⟨(w.heap.size + 1), 3, none⟩ = some (.int .i64 o) ∧ W.cell? (ar.add (k * 10)) = some (.int .i64 l[k].f0.f0) ∧ W.cell? ⟨(ar.add (k * 10)).block, (ar.add (k * 10)).off + 1, none⟩ = some (.int .i64 l[k].f0.f1) ∧ W.cell? ⟨(ar.add (k * 10)).block, (ar.add (k * 10)).off + 2, none⟩ = some (.int .i64 l[k].f1.f0) ∧ W.cell? ⟨(ar.add (k * 10)).block, (ar.add (k * 10)).off + 3, none⟩ = some (.int .i64 l[k].f1.f1) ∧ W.cell? ⟨(ar.add (k * 10)).block, (ar.add (k * 10)).off + 4, none⟩ = some (.int .i64 l[k].f2.f0) ∧ W.cell? ⟨(ar.add (k * 10)).block, (ar.add (k * 10)).off + 5, none⟩ = some (.int .i64 l[k].f2.f1) ∧ W.cell? ⟨(ar.add (k * 10)).block, (ar.add (k * 10)).off + 6, none⟩ = some (.int .i64 l[k].f3.f0) ∧ W.cell? ⟨(ar.add (k * 10)).block, (ar.add (k * 10)).off + 7, none⟩ = some (.int .i64 l[k].f3.f1) ∧ W.cell? ⟨(ar.add (k * 10)).block, (ar.add (k * 10)).off + 8, none⟩ = some (.int .i64 l[k].f4.f0) ∧ W.cell? ⟨(ar.add (k * 10)).block, (ar.add (k * 10)).off + 9, none⟩ = some (.int .i64 l[k].f4.f1) ∧ W.cell? (ad.add (k * 2)) = some (.int .i64 th[k].f0) ∧ W.cell? ⟨(ad.add (k * 2)).block, (ad.add (k * 2)).off + 1, none⟩ = some (.int .i64 th[k].f1) ∧ Below wr.heap.size wr W) ∧ ∃ Bx, u = .pointer (some ⟨Bx, 0, none⟩) ∧ W.heap[Bx]? = some (.cells #[.int .i64 0, .int .i64 0] 29 (0, 0)) ∧ wr.heap.size ≤ Bx)
        { tmps := #[.agg #[.slice (some ar) l.length c, .int .i64 fl, .int .i64 tg], .slice (some ad) th.length cT, .agg #[.int .i64 p, .int .i64 f, .int .i64 s, .int .i64 o], .pointer (some ⟨w.heap.size, 0, none⟩), undef, .pointer (some ⟨(w.heap.size + 1), 0, none⟩), .bool false, .bool false, .bool y, .bool b, .int .i64 k, u11, .int .i64 k, .slice (some ad) th.length cT, .int .i64 th.length, .bool true, u16, u17, .pointer (some ⟨w.heap.size, 0, none⟩), .slice (some ar) l.length c, .int .i64 k, .pointer (some (ar.add (k * 10))), .agg #[.int .i64 (l[k].f0.f0), .int .i64 (l[k].f0.f1), .int .i64 (l[k].f1.f0), .int .i64 (l[k].f1.f1), .int .i64 (l[k].f2.f0), .int .i64 (l[k].f2.f1), .int .i64 (l[k].f3.f0), .int .i64 (l[k].f3.f1), .int .i64 (l[k].f4.f0), .int .i64 (l[k].f4.f1)], .slice (some ad) th.length cT, .int .i64 k, .pointer (some (ad.add (k * 2))), .agg #[.int .i64 (th[k].f0), .int .i64 (th[k].f1)], .agg #[.int .i64 p, .int .i64 f, .int .i64 s, .int .i64 o], .agg #[.int .i64 (stLo l[k] th[k] p f s o), .int .i64 (stHi l[k] th[k] p f s o)], u29, u30, u31, u32, u33, u34, u35, u36, u37, u38, u39, u40, u41, u42, u43, undef, undef], defers := [] }
        mixed (by kernel_rfl) rfl (Ahead.of [0, 1, 2, 3, 4, 5, 6, 7, 8, 9, 10, 11, 12, 13, 14, 15, 16, 17, 29, 30, 31, 32, 33, 34, 35, 36, 37, 38, 39, 40, 41, 42, 43, 44, 45] rfl rfl (by kernel_rfl) (by simp)) ?_ ?_ ?_ rfl ?_
      · exact ⟨blkCell hL.1 0, blkCell hL.1 1, blkCell hL.1 2, blkCell hL.2.1 0, blkCell hL.2.1 1, blkCell hL.2.1 2, blkCell hL.2.1 3, r0, r1, r2, r3, r4, r5, r6, r7, r8, r9, t0, t1, (Below.refl _ _).drew⟩
      · refine EachOp3.ops rfl ⟨?_, ?_, ?_, ?_, ?_, ?_, ?_, ?_, ?_, ?_, ?_, trivial⟩
        · exact .inr (LookOp.either (fun _ _ h => h.1) (LookOp.val 18 _ rfl rfl fun W ⟨c0, c1, c2, c3, c4, c5, c6, x0, x1, x2, x3, x4, x5, x6, x7, x8, x9, x10, x11, hB_⟩ => by go_simp))
        · exact .inr (LookOp.either (fun _ _ h => h.1) (LookOp.val 19 _ rfl rfl fun W ⟨c0, c1, c2, c3, c4, c5, c6, x0, x1, x2, x3, x4, x5, x6, x7, x8, x9, x10, x11, hB_⟩ => by go_simp))
        · exact .inr (LookOp.either (fun _ _ h => h.1) (LookOp.val 20 _ rfl rfl fun W ⟨c0, c1, c2, c3, c4, c5, c6, x0, x1, x2, x3, x4, x5, x6, x7, x8, x9, x10, x11, hB_⟩ => by go_simp))
        · exact .inr (LookOp.either (fun _ _ h => h.1) (LookOp.val 21 _ rfl rfl fun W ⟨c0, c1, c2, c3, c4, c5, c6, x0, x1, x2, x3, x4, x5, x6, x7, x8, x9, x10, x11, hB_⟩ => by go_simp))
        · exact .inr (LookOp.either (fun _ _ h => h.1) (LookOp.val 22 _ rfl rfl fun W ⟨c0, c1, c2, c3, c4, c5, c6, x0, x1, x2, x3, x4, x5, x6, x7, x8, x9, x10, x11, hB_⟩ => by go_simp))
        · exact .inr (LookOp.either (fun _ _ h => h.1) (LookOp.val 23 _ rfl rfl fun W ⟨c0, c1, c2, c3, c4, c5, c6, x0, x1, x2, x3, x4, x5, x6, x7, x8, x9, x10, x11, hB_⟩ => by go_simp))
        · exact .inr (LookOp.either (fun _ _ h => h.1) (LookOp.val 24 _ rfl rfl fun W ⟨c0, c1, c2, c3, c4, c5, c6, x0, x1, x2, x3, x4, x5, x6, x7, x8, x9, x10, x11, hB_⟩ => by go_simp))
        · exact .inr (LookOp.either (fun _ _ h => h.1) (LookOp.val 25 _ rfl rfl fun W ⟨c0, c1, c2, c3, c4, c5, c6, x0, x1, x2, x3, x4, x5, x6, x7, x8, x9, x10, x11, hB_⟩ => by go_simp))
        · exact .inr (LookOp.either (fun _ _ h => h.1) (LookOp.val 26 _ rfl rfl fun W ⟨c0, c1, c2, c3, c4, c5, c6, x0, x1, x2, x3, x4, x5, x6, x7, x8, x9, x10, x11, hB_⟩ => by go_simp))
        · exact .inr (LookOp.either (fun _ _ h => h.1) (LookOp.val 27 _ rfl rfl fun W ⟨c0, c1, c2, c3, c4, c5, c6, x0, x1, x2, x3, x4, x5, x6, x7, x8, x9, x10, x11, hB_⟩ => by go_simp))
        · right
          refine ⟨?_, fun u => ?_⟩
          · refine FlowOp.call 28 (.agg #[.int .i64 (stLo l[k] th[k] p f s o), .int .i64 (stHi l[k] th[k] p f s o)]) 89 #[.agg #[.int .i64 (l[k].f0.f0), .int .i64 (l[k].f0.f1), .int .i64 (l[k].f1.f0), .int .i64 (l[k].f1.f1), .int .i64 (l[k].f2.f0), .int .i64 (l[k].f2.f1), .int .i64 (l[k].f3.f0), .int .i64 (l[k].f3.f1), .int .i64 (l[k].f4.f0), .int .i64 (l[k].f4.f1)], .agg #[.int .i64 (th[k].f0), .int .i64 (th[k].f1)], .agg #[.int .i64 p, .int .i64 f, .int .i64 s, .int .i64 o]] rfl rfl (fun W ⟨c0, c1, c2, c3, c4, c5, c6, x0, x1, x2, x3, x4, x5, x6, x7, x8, x9, x10, x11, hB_⟩ => by go_simp) fun W ⟨c0, c1, c2, c3, c4, c5, c6, x0, x1, x2, x3, x4, x5, x6, x7, x8, x9, x10, x11, hB_⟩ => ?_
            refine (refstress_any l[k] th[k] p f s o _ hr1 ht1 hl1).mono ?_
            rintro e w' ⟨rfl, hb⟩
            exact ⟨rfl, cell_grow c0 hb, cell_grow c1 hb, cell_grow c2 hb, cell_grow c3 hb, cell_grow c4 hb, cell_grow c5 hb, cell_grow c6 hb, cell_growp x0 hb, cell_growp x1 hb, cell_growp x2 hb, cell_growp x3 hb, cell_growp x4 hb, cell_growp x5 hb, cell_growp x6 hb, cell_growp x7 hb, cell_growp x8 hb, cell_growp x9 hb, cell_growp x10 hb, cell_growp x11 hb, hB_.trans (hb.mono hB_.size)⟩
          · refine FlowOp.call 28 (.agg #[.int .i64 (stLo l[k] th[k] p f s o), .int .i64 (stHi l[k] th[k] p f s o)]) 89 #[.agg #[.int .i64 (l[k].f0.f0), .int .i64 (l[k].f0.f1), .int .i64 (l[k].f1.f0), .int .i64 (l[k].f1.f1), .int .i64 (l[k].f2.f0), .int .i64 (l[k].f2.f1), .int .i64 (l[k].f3.f0), .int .i64 (l[k].f3.f1), .int .i64 (l[k].f4.f0), .int .i64 (l[k].f4.f1)], .agg #[.int .i64 (th[k].f0), .int .i64 (th[k].f1)], .agg #[.int .i64 p, .int .i64 f, .int .i64 s, .int .i64 o]] rfl rfl (fun W ⟨⟨c0, c1, c2, c3, c4, c5, c6, x0, x1, x2, x3, x4, x5, x6, x7, x8, x9, x10, x11, hB_⟩, Bx, hu_, hx_, hle_⟩ => by go_simp) fun W ⟨⟨c0, c1, c2, c3, c4, c5, c6, x0, x1, x2, x3, x4, x5, x6, x7, x8, x9, x10, x11, hB_⟩, Bx, hu_, hx_, hle_⟩ => ?_
            refine (refstress_any l[k] th[k] p f s o _ hr1 ht1 hl1).mono ?_
            rintro e w' ⟨rfl, hb⟩
            exact ⟨rfl, ⟨cell_grow c0 hb, cell_grow c1 hb, cell_grow c2 hb, cell_grow c3 hb, cell_grow c4 hb, cell_grow c5 hb, cell_grow c6 hb, cell_growp x0 hb, cell_growp x1 hb, cell_growp x2 hb, cell_growp x3 hb, cell_growp x4 hb, cell_growp x5 hb, cell_growp x6 hb, cell_growp x7 hb, cell_growp x8 hb, cell_growp x9 hb, cell_growp x10 hb, cell_growp x11 hb, hB_.trans (hb.mono hB_.size)⟩, Bx, hu_, heap_grow hx_ hb, hle_⟩
      · refine ⟨rfl, fun W2 ⟨c0, c1, c2, c3, c4, c5, c6, x0, x1, x2, x3, x4, x5, x6, x7, x8, x9, x10, x11, hB_⟩ => ?_⟩
        have hgr := (Below.refl W2.heap.size W2).alloc (Nat.le_refl _) (.cells #[.int .i64 0, .int .i64 0] 29)
        exact ⟨.pointer (some ⟨W2.heap.size, 0, none⟩), W2.alloc (.cells #[.int .i64 0, .int .i64 0] 29), by go_simp, ⟨cell_grow c0 hgr, cell_grow c1 hgr, cell_grow c2 hgr, cell_grow c3 hgr, cell_grow c4 hgr, cell_grow c5 hgr, cell_grow c6 hgr, cell_growp x0 hgr, cell_growp x1 hgr, cell_growp x2 hgr, cell_growp x3 hgr, cell_growp x4 hgr, cell_growp x5 hgr, cell_growp x6 hgr, cell_growp x7 hgr, cell_growp x8 hgr, cell_growp x9 hgr, cell_growp x10 hgr, cell_growp x11 hgr, hB_.trans (hgr.mono hB_.size)⟩, W2.heap.size, rfl, World.alloc_heap_new _ _, hB_.size⟩
      · rintro _ W2 ⟨⟨c0, c1, c2, c3, c4, c5, c6, x0, x1, x2, x3, x4, x5, x6, x7, x8, x9, x10, x11, hB_⟩, Bx, rfl, hx, hle⟩
        have z0 := blkCell hx 0
        have z1 := blkCell hx 1
        have z2 := blkFrozen hx 0
        have z3 := blkFrozen hx 1
        simp at z0 z1
        have g1 := cell_lt (blkCell hL.2.1 0)
        have n1 : ¬ Bx = w.heap.size := by omega
        have n2 : ¬ w.heap.size = Bx := by omega
        have n3 : ¬ Bx = w.heap.size + 1 := by omega
        have n4 : ¬ w.heap.size + 1 = Bx := by omega
        have HL2 := hid (show BothL w ar c l fl tg p f s o ((W2.setCell ⟨Bx, 0, none⟩ (.int .i64 (stLo l[k] th[k] p f s o))).setCell ⟨Bx, 1, none⟩ (.int .i64 (stHi l[k] th[k] p f s o))) from
          ⟨set_other (by simp; omega) (set_other (by simp; omega) (heap_grow hL.1 hB_)), set_other (by simp; omega) (set_other (by simp; omega) (heap_grow hL.2.1 hB_)), ((hL.2.2.trans (hB_.mono hL.2.2.size)).setCell (p := ⟨Bx, 0, none⟩) (by simp; omega) _).setCell (p := ⟨Bx, 1, none⟩) (by simp; omega) _⟩)
        have HL2p := hid (heap_grow hL.1 hB_)
        have HX2 := hid (set_snd (v := .int .i64 (stHi l[k] th[k] p f s o)) (set_fst (v := .int .i64 (stLo l[k] th[k] p f s o)) hx))
        obtain ⟨_, _, s1, _, s2, _⟩ := stress_ex hr1 ht1 hl1
        have HS := hid (And.intro s1 s2)
        have ey : yesOf (limitOf fl tg) p f s o ((l.zip th).take (k + 1)) = (y && decide (stHi l[k] th[k] p f s o ≤ limitOf fl tg)) := by rw [yes_snoc hlt hlt', hy]
        have eb : brkOf (limitOf fl tg) p f s o ((l.zip th).take (k + 1)) = (b || decide (limitOf fl tg < stLo l[k] th[k] p f s o)) := by rw [brk_snoc hlt hlt', hb]
        have HE := hid (And.intro ey eb)
        clear c0 c1 c2 c3 c4 c5 c6 x0 x1 x2 x3 x4 x5 x6 x7 x8 x9 x10 x11 hB_ hx hle hr1 ht1 hl1 t0 t1 r0 r1 r2 r3 r4 r5 r6 r7 r8 r9 hL g1 s1 s2 ey eb hy hb
        have p0 := blkCell (HL2p.out) 0
        have p1 := blkCell (HL2p.out) 1
        have p2 := blkCell (HL2p.out) 2
        simp at p0 p1 p2
        have hk24 : k < 24 := by have := HK.out.1; omega
        cases y <;> cases b
        · go_wp2_with fail
          refine (bears_any (some ar) c l fl tg _ _ (Kd.C_below hr HL2.out.2.2) hc HK.out.2.2.2.1 HK.out.2.2.2.2.2.1 HK.out.2.2.2.2.2.2 HS.out.1).mono ?_
          rintro e w5 ⟨rfl, hq1⟩
          go_wp2
          go_roundw
          case rel => exact ⟨k + 1, by omega, by rw [HE.out.1]; simp, by rw [HE.out.2]; simp; exact le_not _ _, by go_num, hid ⟨(heap_grow HL2.out.1 hq1), (heap_grow HL2.out.2.1 hq1), (HL2.out.2.2.trans (hq1.mono HL2.out.2.2.size))⟩⟩
          case measure => simp [intOf]; omega
        · go_wp2
          go_roundw
          case rel => exact ⟨k + 1, by omega, by rw [HE.out.1]; simp, by rw [HE.out.2]; simp, by go_num, hid ⟨HL2.out.1, HL2.out.2.1, HL2.out.2.2⟩⟩
          case measure => simp [intOf]; omega
        · go_wp2_with fail
          refine (bears_any (some ar) c l fl tg _ _ (Kd.C_below hr HL2.out.2.2) hc HK.out.2.2.2.1 HK.out.2.2.2.2.2.1 HK.out.2.2.2.2.2.2 HS.out.2).mono ?_
          rintro e w5 ⟨rfl, hq1⟩
          have p0 := blkCell (heap_grow HL2.out.1 hq1) 0
          have p1 := blkCell (heap_grow HL2.out.1 hq1) 1
          have p2 := blkCell (heap_grow HL2.out.1 hq1) 2
          have z0 := blkCell (heap_grow HX2.out hq1) 0
          have z1 := blkCell (heap_grow HX2.out hq1) 1
          simp at p0 p1 p2 z0 z1
          go_wp2_with fail
          refine (bears_any (some ar) c l fl tg _ _ (Kd.C_below hr (HL2.out.2.2.trans (hq1.mono HL2.out.2.2.size))) hc HK.out.2.2.2.1 HK.out.2.2.2.2.2.1 HK.out.2.2.2.2.2.2 HS.out.1).mono ?_
          rintro e w6 ⟨rfl, hq2⟩
          go_wp2
          go_roundw
          case rel => exact ⟨k + 1, by omega, by rw [HE.out.1]; simp, by rw [HE.out.2]; simp; exact le_not _ _, by go_num, hid ⟨(heap_grow (heap_grow HL2.out.1 hq1) hq2), (heap_grow (heap_grow HL2.out.2.1 hq1) hq2), ((HL2.out.2.2.trans (hq1.mono HL2.out.2.2.size)).trans (hq2.mono (HL2.out.2.2.trans (hq1.mono HL2.out.2.2.size)).size))⟩⟩
          case measure => simp [intOf]; omega
        · go_wp2_with fail
          refine (bears_any (some ar) c l fl tg _ _ (Kd.C_below hr HL2.out.2.2) hc HK.out.2.2.2.1 HK.out.2.2.2.2.2.1 HK.out.2.2.2.2.2.2 HS.out.2).mono ?_
          rintro e w5 ⟨rfl, hq1⟩
          go_wp2
          go_roundw
          case rel => exact ⟨k + 1, by omega, by rw [HE.out.1]; simp, by rw [HE.out.2]; simp, by go_num, hid ⟨(heap_grow HL2.out.1 hq1), (heap_grow HL2.out.2.1 hq1), (HL2.out.2.2.trans (hq1.mono HL2.out.2.2.size))⟩⟩
          case measure => simp [intOf]; omega
    · have hke : k = th.length := by omega
      have hz : (l.zip th).length = k := by rw [List.length_zip, ← HN.out]; omega
      have hy2 : y = yesOf (limitOf fl tg) p f s o (l.zip th) := by rw [← hy, List.take_of_length_le (by omega)]
      have hb2 : b = brkOf (limitOf fl tg) p f s o (l.zip th) := by rw [← hb, List.take_of_length_le (by omega)]
      have HY2 := hid (And.intro hy2 hb2)
      clear hy2 hb2 hy hb hz hkl
      subst hke
      go_wp2
      refine bodyPost_ret (v := .tuple #[.bool y, .bool b]) (by simp [results, Try.results90, go_sem]) rfl ⟨by rw [← HY2.out.1, ← HY2.out.2], HL.out.2.2⟩
end Go.Proofs.Ythoofldinnfpiaa
