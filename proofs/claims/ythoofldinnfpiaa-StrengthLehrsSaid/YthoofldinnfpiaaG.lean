import Derived.Test.YthoofldinnfpiaaE
namespace Go.Proofs.Ythoofldinnfpiaa
open Go.RowKit Go.Proofs.YthoofldinnfpiaaW.PrintWords Go.Proofs.YthoofldinnfpiaaW.PrintLast Go.Proofs.YthoofldinnfpiaaW.PrintMore
open Q Go.Shelf
attribute [local go_sem] Oper.semAt_some wide_depth wide_fn
theorem wrap_i (n : Int) : IntKind.i64.wrap n = wrap64 n := by unfold wrap64; exact IntKind.wrap_i64 n
def downW (a b : Int) : Int := wrap64 (Int.tdiv a b)
def upW (a b : Int) : Int := wrap64 (Int.tdiv (wrap64 (wrap64 (a + b) - 1)) b)
theorem down_any (a b : Int) (w : World) (h : ¬ b = 0) : Calls Try.prog 100 #[.int .i64 a, .int .i64 b] w fun e w' => e = .returned (.int .i64 (downW a b)) ∧ Below w.heap.size w w' := by
  go_enter Try.func100, Try.ntmps100
  go_wp2
  go_ret
  exact ⟨rfl, Below.refl _ _⟩
theorem up_any (a b : Int) (w : World) (h : ¬ b = 0) : Calls Try.prog 101 #[.int .i64 a, .int .i64 b] w fun e w' => e = .returned (.int .i64 (upW a b)) ∧ Below w.heap.size w w' := by
  go_enter Try.func101, Try.ntmps101
  go_wp2
  go_ret
  exact ⟨rfl, Below.refl _ _⟩
def thickLo (r : S82) (a : Int) : Int := downW (IntKind.i64.wrap ((IntKind.i64.wrap ((IntKind.i64.wrap (200 * a)) * r.f2.f0)) * 113)) (IntKind.i64.wrap ((IntKind.i64.wrap (355 * r.f0.f1)) * r.f1.f1))
def thickHi (r : S82) (b : Int) : Int := upW (IntKind.i64.wrap ((IntKind.i64.wrap ((IntKind.i64.wrap (200 * b)) * r.f2.f1)) * 106)) (IntKind.i64.wrap ((IntKind.i64.wrap (333 * r.f0.f0)) * r.f1.f0))
theorem alloc2_new {w : World} {a b c : Obj} : (((w.alloc a).alloc b).alloc c).drew.heap[w.heap.size + 1 + 1]? = some c := by
  have := World.alloc_heap_new ((w.alloc a).alloc b) c
  simp only [World.size_alloc] at this
  exact this
set_option maxRecDepth 100000 in
set_option maxHeartbeats 1000000 in
theorem thickness_any (r : S82) (a b : Int) (w : World) (h1 : ¬ (IntKind.i64.wrap ((IntKind.i64.wrap (355 * r.f0.f1)) * r.f1.f1)) = 0) (h2 : ¬ (IntKind.i64.wrap ((IntKind.i64.wrap (333 * r.f0.f0)) * r.f1.f0)) = 0) :
    Calls Try.prog 55 #[ringV r, .agg #[.int .i64 a, .int .i64 b]] w fun e w' => e = .returned (.agg #[.int .i64 (thickLo r a), .int .i64 (thickHi r b)]) ∧ Below w.heap.size w w' := by
  have HB := Below.refl w.heap.size w
  have hu := Try.underlying82
  have hu2 := Try.underlying29
  unfold ringV
  go_enter Try.func55, Try.ntmps55
  go_wp2_with fail
  refine wp_flow [[], [0], [1, 0], [], [3], [4, 3], [2, 1, 0, 5, 4, 3], [6, 2, 1, 0, 5, 4, 3], [], [8], [9, 8], [10, 9, 8], [], [12], [13, 12], [11, 10, 9, 8, 14, 13, 12], [7, 6, 2, 1, 0, 5, 4, 3, 15, 11, 10, 9, 8, 14, 13, 12], [], [17], [18, 17], [], [20], [21, 20], [19, 18, 17, 22, 21, 20], [23, 19, 18, 17, 22, 21, 20], [], [25], [26, 25], [27, 26, 25], [], [29], [30, 29], [28, 27, 26, 25, 31, 30, 29], [24, 23, 19, 18, 17, 22, 21, 20, 32, 28, 27, 26, 25, 31, 30, 29, 16, 7, 6, 2, 1, 0, 5, 4, 3, 15, 11, 10, 9, 8, 14, 13, 12], [16, 7, 6, 2, 1, 0, 5, 4, 3, 15, 11, 10, 9, 8, 14, 13, 12, 33, 24, 23, 19, 18, 17, 22, 21, 20, 32, 28, 27, 26, 25, 31, 30, 29], [34, 16, 7, 6, 2, 1, 0, 5, 4, 3, 15, 11, 10, 9, 8, 14, 13, 12, 33, 24, 23, 19, 18, 17, 22, 21, 20, 32, 28, 27, 26, 25, 31, 30, 29]] 35
    (fun W => W.cell? ⟨w.heap.size, 0, none⟩ = some (.int .i64 r.f0.f0) ∧ W.cell? ⟨w.heap.size, 1, none⟩ = some (.int .i64 r.f0.f1) ∧ W.cell? ⟨w.heap.size, 2, none⟩ = some (.int .i64 r.f1.f0) ∧ W.cell? ⟨w.heap.size, 3, none⟩ = some (.int .i64 r.f1.f1) ∧ W.cell? ⟨w.heap.size, 4, none⟩ = some (.int .i64 r.f2.f0) ∧ W.cell? ⟨w.heap.size, 5, none⟩ = some (.int .i64 r.f2.f1) ∧ W.cell? ⟨w.heap.size, 6, none⟩ = some (.int .i64 r.f3.f0) ∧ W.cell? ⟨w.heap.size, 7, none⟩ = some (.int .i64 r.f3.f1) ∧ W.cell? ⟨w.heap.size, 8, none⟩ = some (.int .i64 r.f4.f0) ∧ W.cell? ⟨w.heap.size, 9, none⟩ = some (.int .i64 r.f4.f1) ∧ W.cell? ⟨(w.heap.size + 1), 0, none⟩ = some (.int .i64 a) ∧ W.cell? ⟨(w.heap.size + 1), 1, none⟩ = some (.int .i64 b) ∧ W.heap[w.heap.size + 1 + 1]? = some (.cells #[.int .i64 0, .int .i64 0] 29 (0, 0)) ∧ Below w.heap.size w W)
    { tmps := #[.agg #[.int .i64 r.f0.f0, .int .i64 r.f0.f1, .int .i64 r.f1.f0, .int .i64 r.f1.f1, .int .i64 r.f2.f0, .int .i64 r.f2.f1, .int .i64 r.f3.f0, .int .i64 r.f3.f1, .int .i64 r.f4.f0, .int .i64 r.f4.f1], .agg #[.int .i64 a, .int .i64 b], .pointer (some ⟨w.heap.size, 0, none⟩), .pointer (some ⟨(w.heap.size + 1), 0, none⟩), .pointer (some ⟨(w.heap.size + 1 + 1), 0, none⟩), .pointer (some ⟨(w.heap.size + 1), 0, none⟩), .int .i64 a, .int .i64 (IntKind.i64.wrap (200 * a)), .pointer (some ⟨w.heap.size, 4, none⟩), .pointer (some ⟨w.heap.size, 4, none⟩), .int .i64 r.f2.f0, .int .i64 (IntKind.i64.wrap ((IntKind.i64.wrap (200 * a)) * r.f2.f0)), .int .i64 (IntKind.i64.wrap ((IntKind.i64.wrap ((IntKind.i64.wrap (200 * a)) * r.f2.f0)) * 113)), .pointer (some ⟨w.heap.size, 0, none⟩), .pointer (some ⟨w.heap.size, 1, none⟩), .int .i64 r.f0.f1, .int .i64 (IntKind.i64.wrap (355 * r.f0.f1)), .pointer (some ⟨w.heap.size, 2, none⟩), .pointer (some ⟨w.heap.size, 3, none⟩), .int .i64 r.f1.f1, .int .i64 (IntKind.i64.wrap ((IntKind.i64.wrap (355 * r.f0.f1)) * r.f1.f1)), .int .i64 (thickLo r a), .pointer (some ⟨(w.heap.size + 1), 1, none⟩), .int .i64 b, .int .i64 (IntKind.i64.wrap (200 * b)), .pointer (some ⟨w.heap.size, 4, none⟩), .pointer (some ⟨w.heap.size, 5, none⟩), .int .i64 r.f2.f1, .int .i64 (IntKind.i64.wrap ((IntKind.i64.wrap (200 * b)) * r.f2.f1)), .int .i64 (IntKind.i64.wrap ((IntKind.i64.wrap ((IntKind.i64.wrap (200 * b)) * r.f2.f1)) * 106)), .pointer (some ⟨w.heap.size, 0, none⟩), .pointer (some ⟨w.heap.size, 0, none⟩), .int .i64 r.f0.f0, .int .i64 (IntKind.i64.wrap (333 * r.f0.f0)), .pointer (some ⟨w.heap.size, 2, none⟩), .pointer (some ⟨w.heap.size, 2, none⟩), .int .i64 r.f1.f0, .int .i64 (IntKind.i64.wrap ((IntKind.i64.wrap (333 * r.f0.f0)) * r.f1.f0)), .int .i64 (thickHi r b), .agg #[.int .i64 (thickLo r a), .int .i64 (thickHi r b)]], defers := [] }
    mixed (by kernel_rfl) rfl (Ahead.of [0, 1, 2, 3, 4] rfl rfl (by kernel_rfl) (by simp)) ?_ (AllFlow.ops rfl ?_) rfl ?_
  · exact ⟨by go_simp, by go_simp, by go_simp, by go_simp, by go_simp, by go_simp, by go_simp, by go_simp, by go_simp, by go_simp, by go_simp, by go_simp, alloc2_new, (((HB.alloc (Nat.le_refl _) _).alloc (by simp) _).alloc (by simp; omega) _).drew⟩
  · refine ⟨?_, ?_, ?_, ?_, ?_, ?_, ?_, ?_, ?_, ?_, ?_, ?_, ?_, ?_, ?_, ?_, ?_, ?_, ?_, ?_, ?_, ?_, ?_, ?_, ?_, ?_, ?_, ?_, ?_, ?_, ?_, ?_, ?_, ?_, ?_, trivial⟩
    · exact .val 5 _ rfl rfl fun W ⟨c0, c1, c2, c3, c4, c5, c6, c7, c8, c9, c10, c11, x0, hB_⟩ => by go_simp
    · exact .val 6 _ rfl rfl fun W ⟨c0, c1, c2, c3, c4, c5, c6, c7, c8, c9, c10, c11, x0, hB_⟩ => by go_simp
    · exact .val 7 _ rfl rfl fun W ⟨c0, c1, c2, c3, c4, c5, c6, c7, c8, c9, c10, c11, x0, hB_⟩ => by go_simp
    · exact .val 8 _ rfl rfl fun W ⟨c0, c1, c2, c3, c4, c5, c6, c7, c8, c9, c10, c11, x0, hB_⟩ => by go_simp
    · exact .val 9 _ rfl rfl fun W ⟨c0, c1, c2, c3, c4, c5, c6, c7, c8, c9, c10, c11, x0, hB_⟩ => by go_simp
    · exact .val 10 _ rfl rfl fun W ⟨c0, c1, c2, c3, c4, c5, c6, c7, c8, c9, c10, c11, x0, hB_⟩ => by go_simp
    · exact .val 11 _ rfl rfl fun W ⟨c0, c1, c2, c3, c4, c5, c6, c7, c8, c9, c10, c11, x0, hB_⟩ => by go_simp
    · exact .val 12 _ rfl rfl fun W ⟨c0, c1, c2, c3, c4, c5, c6, c7, c8, c9, c10, c11, x0, hB_⟩ => by go_simp
    · exact .val 13 _ rfl rfl fun W ⟨c0, c1, c2, c3, c4, c5, c6, c7, c8, c9, c10, c11, x0, hB_⟩ => by go_simp
    · exact .val 14 _ rfl rfl fun W ⟨c0, c1, c2, c3, c4, c5, c6, c7, c8, c9, c10, c11, x0, hB_⟩ => by go_simp
    · exact .val 15 _ rfl rfl fun W ⟨c0, c1, c2, c3, c4, c5, c6, c7, c8, c9, c10, c11, x0, hB_⟩ => by go_simp
    · exact .val 16 _ rfl rfl fun W ⟨c0, c1, c2, c3, c4, c5, c6, c7, c8, c9, c10, c11, x0, hB_⟩ => by go_simp
    · exact .val 17 _ rfl rfl fun W ⟨c0, c1, c2, c3, c4, c5, c6, c7, c8, c9, c10, c11, x0, hB_⟩ => by go_simp
    · exact .val 18 _ rfl rfl fun W ⟨c0, c1, c2, c3, c4, c5, c6, c7, c8, c9, c10, c11, x0, hB_⟩ => by go_simp
    · exact .val 19 _ rfl rfl fun W ⟨c0, c1, c2, c3, c4, c5, c6, c7, c8, c9, c10, c11, x0, hB_⟩ => by go_simp
    · exact .val 20 _ rfl rfl fun W ⟨c0, c1, c2, c3, c4, c5, c6, c7, c8, c9, c10, c11, x0, hB_⟩ => by go_simp
    · refine .call 21 (.int .i64 (thickLo r a)) 100 #[.int .i64 (IntKind.i64.wrap ((IntKind.i64.wrap ((IntKind.i64.wrap (200 * a)) * r.f2.f0)) * 113)), .int .i64 (IntKind.i64.wrap ((IntKind.i64.wrap (355 * r.f0.f1)) * r.f1.f1))] rfl rfl (fun W ⟨c0, c1, c2, c3, c4, c5, c6, c7, c8, c9, c10, c11, x0, hB_⟩ => by go_simp) fun W ⟨c0, c1, c2, c3, c4, c5, c6, c7, c8, c9, c10, c11, x0, hB_⟩ => ?_
      refine (down_any _ _ _ h1).mono ?_
      rintro e w' ⟨rfl, hb⟩
      exact ⟨rfl, cell_grow c0 hb, cell_grow c1 hb, cell_grow c2 hb, cell_grow c3 hb, cell_grow c4 hb, cell_grow c5 hb, cell_grow c6 hb, cell_grow c7 hb, cell_grow c8 hb, cell_grow c9 hb, cell_grow c10 hb, cell_grow c11 hb, heap_grow x0 hb, hB_.trans (hb.mono hB_.size)⟩
    · exact .val 22 _ rfl rfl fun W ⟨c0, c1, c2, c3, c4, c5, c6, c7, c8, c9, c10, c11, x0, hB_⟩ => by go_simp
    · exact .val 23 _ rfl rfl fun W ⟨c0, c1, c2, c3, c4, c5, c6, c7, c8, c9, c10, c11, x0, hB_⟩ => by go_simp
    · exact .val 24 _ rfl rfl fun W ⟨c0, c1, c2, c3, c4, c5, c6, c7, c8, c9, c10, c11, x0, hB_⟩ => by go_simp
    · exact .val 25 _ rfl rfl fun W ⟨c0, c1, c2, c3, c4, c5, c6, c7, c8, c9, c10, c11, x0, hB_⟩ => by go_simp
    · exact .val 26 _ rfl rfl fun W ⟨c0, c1, c2, c3, c4, c5, c6, c7, c8, c9, c10, c11, x0, hB_⟩ => by go_simp
    · exact .val 27 _ rfl rfl fun W ⟨c0, c1, c2, c3, c4, c5, c6, c7, c8, c9, c10, c11, x0, hB_⟩ => by go_simp
    · exact .val 28 _ rfl rfl fun W ⟨c0, c1, c2, c3, c4, c5, c6, c7, c8, c9, c10, c11, x0, hB_⟩ => by go_simp
    · exact .val 29 _ rfl rfl fun W ⟨c0, c1, c2, c3, c4, c5, c6, c7, c8, c9, c10, c11, x0, hB_⟩ => by go_simp
    · exact .val 30 _ rfl rfl fun W ⟨c0, c1, c2, c3, c4, c5, c6, c7, c8, c9, c10, c11, x0, hB_⟩ => by go_simp
    · exact .val 31 _ rfl rfl fun W ⟨c0, c1, c2, c3, c4, c5, c6, c7, c8, c9, c10, c11, x0, hB_⟩ => by go_simp
    · exact .val 32 _ rfl rfl fun W ⟨c0, c1, c2, c3, c4, c5, c6, c7, c8, c9, c10, c11, x0, hB_⟩ => by go_simp
    · exact .val 33 _ rfl rfl fun W ⟨c0, c1, c2, c3, c4, c5, c6, c7, c8, c9, c10, c11, x0, hB_⟩ => by go_simp
    · exact .val 34 _ rfl rfl fun W ⟨c0, c1, c2, c3, c4, c5, c6, c7, c8, c9, c10, c11, x0, hB_⟩ => by go_simp
    · exact .val 35 _ rfl rfl fun W ⟨c0, c1, c2, c3, c4, c5, c6, c7, c8, c9, c10, c11, x0, hB_⟩ => by go_simp
    · exact .val 36 _ rfl rfl fun W ⟨c0, c1, c2, c3, c4, c5, c6, c7, c8, c9, c10, c11, x0, hB_⟩ => by go_simp
    · exact .val 37 _ rfl rfl fun W ⟨c0, c1, c2, c3, c4, c5, c6, c7, c8, c9, c10, c11, x0, hB_⟩ => by go_simp
    · refine .call 38 (.int .i64 (thickHi r b)) 101 #[.int .i64 (IntKind.i64.wrap ((IntKind.i64.wrap ((IntKind.i64.wrap (200 * b)) * r.f2.f1)) * 106)), .int .i64 (IntKind.i64.wrap ((IntKind.i64.wrap (333 * r.f0.f0)) * r.f1.f0))] rfl rfl (fun W ⟨c0, c1, c2, c3, c4, c5, c6, c7, c8, c9, c10, c11, x0, hB_⟩ => by go_simp) fun W ⟨c0, c1, c2, c3, c4, c5, c6, c7, c8, c9, c10, c11, x0, hB_⟩ => ?_
      refine (up_any _ _ _ h2).mono ?_
      rintro e w' ⟨rfl, hb⟩
      exact ⟨rfl, cell_grow c0 hb, cell_grow c1 hb, cell_grow c2 hb, cell_grow c3 hb, cell_grow c4 hb, cell_grow c5 hb, cell_grow c6 hb, cell_grow c7 hb, cell_grow c8 hb, cell_grow c9 hb, cell_grow c10 hb, cell_grow c11 hb, heap_grow x0 hb, hB_.trans (hb.mono hB_.size)⟩
    · exact .val 39 _ rfl rfl fun W ⟨c0, c1, c2, c3, c4, c5, c6, c7, c8, c9, c10, c11, x0, hB_⟩ => by go_simp
  · rintro W ⟨c0, c1, c2, c3, c4, c5, c6, c7, c8, c9, c10, c11, x0, hB_⟩
    have z0 := blkCell x0 0
    have z1 := blkCell x0 1
    have z2 := blkFrozen x0 0
    have z3 := blkFrozen x0 1
    simp at z0 z1
    have HW := hid hB_
    clear hB_ x0 c0 c1 c2 c3 c4 c5 c6 c7 c8 c9 c10 c11 h1 h2 HB
    go_wp2
    refine bodyPost_ret (v := .agg #[.int .i64 (thickLo r a), .int .i64 (thickHi r b)]) (by simp [results, Try.results55, go_sem, z0, z1]) rfl ⟨rfl, ?_⟩
    exact (HW.out.setCell (p := ⟨w.heap.size + 1 + 1, 0, none⟩) (by simp; omega) _).setCell (p := ⟨w.heap.size + 1 + 1, 1, none⟩) (by simp; omega) _
end Go.Proofs.Ythoofldinnfpiaa
