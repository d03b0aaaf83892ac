-- D1 E3 (wip/pack9.py)
import Derived.Test.YtbmkbokkmmdjdaaGreatU19
import Derived.Test.YtbmkbokkmmdjdaaGreatU32
section
namespace Go.Proofs.YtbmkbokkmmdjdaaGreat
open Go.RowKit Go.Proofs.YtbmkbokkmmdjdaaGreatW.PrintWords Go.Proofs.YtbmkbokkmmdjdaaGreatW.PrintLast Go.Proofs.YtbmkbokkmmdjdaaGreatW.PrintMore
open Q Go.Shelf
attribute [local go_sem] Oper.semAt_some wide_depth wide_fn
set_option linter.unusedVariables false
set_option linter.unusedSimpArgs false

attribute [local go_sem high] eqA23
def yearL : List S93 := [⟨0, 1, 0, 0, ⟨500, 500⟩, ⟨600, 700⟩, ⟨0, 0⟩, 0⟩, ⟨0, 2, 0, 0, ⟨200, 210⟩, ⟨0, 0⟩, ⟨0, 0⟩, 0⟩, ⟨0, 3, 0, 0, ⟨190, 200⟩, ⟨0, 0⟩, ⟨0, 0⟩, 0⟩, ⟨0, 4, 0, 7, ⟨180, 180⟩, ⟨0, 0⟩, ⟨0, 0⟩, 0⟩, ⟨0, 6, 0, 0, ⟨0, 0⟩, ⟨0, 0⟩, ⟨0, 0⟩, 0⟩]
theorem year_any (w : World) : Calls Tryz.prog 23 #[] w fun e w' => ∃ A c, e = .returned (.agg #[.int .i64 900, .int .i64 1300, .int .i64 1000, .int .i64 1000, .slice A yearL.length c]) ∧ yearL.length ≤ c ∧ Kd.C k93 w' A yearL.length yearL ∧ Below w.heap.size w w' := by
  refine (culletlaw09_year.calls 900 1300 1000 1000 yearL w (by rfl)).mono ?_
  rintro e w' ⟨v, rfl, hR, hb⟩
  obtain ⟨A, c, rfl, hl, hC⟩ := Kd.R_reads hR
  exact ⟨A, c, rfl, hl, hC, hb⟩
theorem year_wrong : wrongV ⟨900, 1300⟩ ⟨1000, 1000⟩ yearL = .tuple #[.int .i64 5, .int .u8 0, .int .i64 0, .int .i64 0] := by kernel_rfl
theorem year_a0 : amountV ⟨900, 1300⟩ ⟨1000, 1000⟩ yearL 0 0 5 = (⟨1000000, 1020000⟩, 0) := by kernel_rfl
theorem year_a2 : amountV ⟨900, 1300⟩ ⟨1000, 1000⟩ yearL 2 0 5 = (⟨290000, 300000⟩, 0) := by kernel_rfl
theorem year_a1 : amountV ⟨900, 1300⟩ ⟨1000, 1000⟩ yearL 1 0 5 = (⟨10000, 20000⟩, 0) := by kernel_rfl
theorem year_share : shareRes ⟨900, 1300⟩ ⟨1000, 1000⟩ yearL 0 = (⟨571, 735⟩, 0) := by kernel_rfl
theorem year_most : mostV ⟨900, 1300⟩ ⟨1000, 1000⟩ yearL 7 = (571, 0) := by kernel_rfl
set_option maxRecDepth 100000 in
set_option maxHeartbeats 8000000 in
theorem sums_any (w : World) : Calls Tryz.prog 7 #[] w (RetBool true w) := by
  have hu := Tryz.underlying23
  have HB0 := hid (Below.refl w.heap.size w)
  go_enter Tryz.func7, Tryz.ntmps7
  go_wp2_with fail
  refine (year_any _).mono ?_
  rintro e W1 ⟨A1, c1, rfl, hc1, hk1, hb⟩
  have HB1 := hid (HB0.out.trans (hb.mono HB0.out.size))
  clear hb
  go_wp2_with fail
  refine (Wrong_any ⟨900, 1300⟩ ⟨1000, 1000⟩ A1 c1 yearL _ hk1 hc1).mono ?_
  rintro e W2 ⟨rfl, hb⟩
  rw [year_wrong]
  have HB2 := hid (HB1.out.trans (hb.mono HB1.out.size))
  clear hb hk1 hc1
  go_wp2_with fail
  refine (year_any _).mono ?_
  rintro e W1 ⟨A1, c1, rfl, hc1, hk1, hb⟩
  have HB3 := hid (HB2.out.trans (hb.mono HB2.out.size))
  clear hb
  go_wp2_with fail
  refine (Amount_any ⟨900, 1300⟩ ⟨1000, 1000⟩ A1 c1 yearL 0 0 5 _ hk1 hc1).mono ?_
  rintro e W2 ⟨rfl, hb⟩
  rw [year_a0]
  have HB4 := hid (HB3.out.trans (hb.mono HB3.out.size))
  clear hb hk1 hc1
  go_upto_region 3 with fail
  have hgr := (Below.refl W2.heap.size W2).alloc (Nat.le_refl _) (.cells #[.int .i64 1000000, .int .i64 1020000] 23)
  have e1 := World.alloc_heap_new W2 (.cells #[.int .i64 1000000, .int .i64 1020000] 23)
  have HX1 := hid (HB4.out.trans (hgr.mono HB4.out.size))
  clear HB4 hgr
  have HB4 := hid HX1.out
  generalize W2.alloc (.cells #[.int .i64 1000000, .int .i64 1020000] 23) = W3 at *
  generalize W2.heap.size = Bx1 at *
  go_wp2_with fail
  refine (year_any _).mono ?_
  rintro e W1 ⟨A1, c1, rfl, hc1, hk1, hb⟩
  have HB5 := hid (HB4.out.trans (hb.mono HB4.out.size))
  have e1' := heap_grow e1 hb
  clear e1
  have e1 := e1'
  clear e1'
  clear hb
  go_wp2_with fail
  refine (Amount_any ⟨900, 1300⟩ ⟨1000, 1000⟩ A1 c1 yearL 2 0 5 _ hk1 hc1).mono ?_
  rintro e W2 ⟨rfl, hb⟩
  rw [year_a2]
  have HB6 := hid (HB5.out.trans (hb.mono HB5.out.size))
  have e1' := heap_grow e1 hb
  clear e1
  have e1 := e1'
  clear e1'
  clear hb hk1 hc1
  go_upto_region 4 with fail
  have hgr := (Below.refl W2.heap.size W2).alloc (Nat.le_refl _) (.cells #[.int .i64 290000, .int .i64 300000] 23)
  have e2 := World.alloc_heap_new W2 (.cells #[.int .i64 290000, .int .i64 300000] 23)
  have e1' := heap_grow e1 hgr
  clear e1
  have e1 := e1'
  clear e1'
  have HX2 := hid (HB6.out.trans (hgr.mono HB6.out.size))
  clear HB6 hgr
  have HB6 := hid HX2.out
  generalize W2.alloc (.cells #[.int .i64 290000, .int .i64 300000] 23) = W3 at *
  generalize W2.heap.size = Bx2 at *
  go_wp2_with fail
  refine (year_any _).mono ?_
  rintro e W1 ⟨A1, c1, rfl, hc1, hk1, hb⟩
  have HB7 := hid (HB6.out.trans (hb.mono HB6.out.size))
  have e1' := heap_grow e1 hb
  clear e1
  have e2' := heap_grow e2 hb
  clear e2
  have e1 := e1'
  clear e1'
  have e2 := e2'
  clear e2'
  clear hb
  go_wp2_with fail
  refine (Amount_any ⟨900, 1300⟩ ⟨1000, 1000⟩ A1 c1 yearL 1 0 5 _ hk1 hc1).mono ?_
  rintro e W2 ⟨rfl, hb⟩
  rw [year_a1]
  have HB8 := hid (HB7.out.trans (hb.mono HB7.out.size))
  have e1' := heap_grow e1 hb
  clear e1
  have e2' := heap_grow e2 hb
  clear e2
  have e1 := e1'
  clear e1'
  have e2 := e2'
  clear e2'
  clear hb hk1 hc1
  go_upto_region 5 with fail
  have hgr := (Below.refl W2.heap.size W2).alloc (Nat.le_refl _) (.cells #[.int .i64 10000, .int .i64 20000] 23)
  have e3 := World.alloc_heap_new W2 (.cells #[.int .i64 10000, .int .i64 20000] 23)
  have e1' := heap_grow e1 hgr
  clear e1
  have e2' := heap_grow e2 hgr
  clear e2
  have e1 := e1'
  clear e1'
  have e2 := e2'
  clear e2'
  have HX3 := hid (HB8.out.trans (hgr.mono HB8.out.size))
  clear HB8 hgr
  have HB8 := hid HX3.out
  generalize W2.alloc (.cells #[.int .i64 10000, .int .i64 20000] 23) = W3 at *
  generalize W2.heap.size = Bx3 at *
  go_wp2_with fail
  refine (year_any _).mono ?_
  rintro e W1 ⟨A1, c1, rfl, hc1, hk1, hb⟩
  have HB9 := hid (HB8.out.trans (hb.mono HB8.out.size))
  have e1' := heap_grow e1 hb
  clear e1
  have e2' := heap_grow e2 hb
  clear e2
  have e3' := heap_grow e3 hb
  clear e3
  have e1 := e1'
  clear e1'
  have e2 := e2'
  clear e2'
  have e3 := e3'
  clear e3'
  clear hb
  go_wp2_with fail
  refine (Share_any ⟨900, 1300⟩ ⟨1000, 1000⟩ A1 c1 yearL 0 _ hk1 hc1).mono ?_
  rintro e W2 ⟨rfl, hb⟩
  rw [year_share]
  have HB10 := hid (HB9.out.trans (hb.mono HB9.out.size))
  have e1' := heap_grow e1 hb
  clear e1
  have e2' := heap_grow e2 hb
  clear e2
  have e3' := heap_grow e3 hb
  clear e3
  have e1 := e1'
  clear e1'
  have e2 := e2'
  clear e2'
  have e3 := e3'
  clear e3'
  clear hb hk1 hc1
  go_upto_region 6 with fail
  have hgr := (Below.refl W2.heap.size W2).alloc (Nat.le_refl _) (.cells #[.int .i64 571, .int .i64 735] 23)
  have e4 := World.alloc_heap_new W2 (.cells #[.int .i64 571, .int .i64 735] 23)
  have e1' := heap_grow e1 hgr
  clear e1
  have e2' := heap_grow e2 hgr
  clear e2
  have e3' := heap_grow e3 hgr
  clear e3
  have e1 := e1'
  clear e1'
  have e2 := e2'
  clear e2'
  have e3 := e3'
  clear e3'
  have HX4 := hid (HB10.out.trans (hgr.mono HB10.out.size))
  clear HB10 hgr
  have HB10 := hid HX4.out
  generalize W2.alloc (.cells #[.int .i64 571, .int .i64 735] 23) = W3 at *
  generalize W2.heap.size = Bx4 at *
  go_wp2_with fail
  refine (year_any _).mono ?_
  rintro e W1 ⟨A1, c1, rfl, hc1, hk1, hb⟩
  have HB11 := hid (HB10.out.trans (hb.mono HB10.out.size))
  have e1' := heap_grow e1 hb
  clear e1
  have e2' := heap_grow e2 hb
  clear e2
  have e3' := heap_grow e3 hb
  clear e3
  have e4' := heap_grow e4 hb
  clear e4
  have e1 := e1'
  clear e1'
  have e2 := e2'
  clear e2'
  have e3 := e3'
  clear e3'
  have e4 := e4'
  clear e4'
  clear hb
  go_wp2_with fail
  refine (Most_any ⟨900, 1300⟩ ⟨1000, 1000⟩ A1 c1 yearL 7 _ hk1 hc1).mono ?_
  rintro e W2 ⟨rfl, hb⟩
  rw [year_most]
  have HB12 := hid (HB11.out.trans (hb.mono HB11.out.size))
  have e1' := heap_grow e1 hb
  clear e1
  have e2' := heap_grow e2 hb
  clear e2
  have e3' := heap_grow e3 hb
  clear e3
  have e4' := heap_grow e4 hb
  clear e4
  have e1 := e1'
  clear e1'
  have e2 := e2'
  clear e2'
  have e3 := e3'
  clear e3'
  have e4 := e4'
  clear e4'
  clear hb hk1 hc1
  have y0 := blkCell e1 0
  have z0 := blkCell e1 1
  have y1 := blkCell e2 0
  have z1 := blkCell e2 1
  have y2 := blkCell e3 0
  have z2 := blkCell e3 1
  have y3 := blkCell e4 0
  have z3 := blkCell e4 1
  simp at y0 z0 y1 z1 y2 z2 y3 z3
  clear e1 e2 e3 e4
  go_wp2
  go_ret
  exact ⟨rfl, HB12.out⟩
end Go.Proofs.YtbmkbokkmmdjdaaGreat
end
section
namespace Go.Proofs.YtbmkbokkmmdjdaaGreat
open Go.RowKit Go.Proofs.YtbmkbokkmmdjdaaGreatW.PrintWords Go.Proofs.YtbmkbokkmmdjdaaGreatW.PrintLast Go.Proofs.YtbmkbokkmmdjdaaGreatW.PrintMore
open Q Go.Shelf
attribute [local go_sem] Oper.semAt_some wide_depth wide_fn
set_option linter.unusedVariables false
set_option linter.unusedSimpArgs false

set_option maxRecDepth 100000 in
set_option maxHeartbeats 4000000 in
theorem LedgerCovers_any (ho fi : S23) (A : Option Addr) (c : Nat) (l : List S93) (q : Int) (w : World) (hr : Kd.C k93 w A l.length l) (hc : l.length ≤ c) :
    Calls Tryz.prog 4 #[.agg #[.int .i64 ho.f0, .int .i64 ho.f1, .int .i64 fi.f0, .int .i64 fi.f1, .slice A l.length c], .int .i64 q] w (RetBool true w) := by
  have hbel := (Below.refl w.heap.size w).alloc (Nat.le_refl _) (.cells #[.int .i64 ho.f0, .int .i64 ho.f1, .int .i64 fi.f0, .int .i64 fi.f1, .slice A l.length c] 26)
  have e0 := World.alloc_heap_new w (.cells #[.int .i64 ho.f0, .int .i64 ho.f1, .int .i64 fi.f0, .int .i64 fi.f1, .slice A l.length c] 26)
  obtain ⟨cv, hcv⟩ : ∃ cv, coveredV ho fi l = cv := ⟨_, rfl⟩
  obtain ⟨mv, hmv⟩ : ∃ mv, mostV ho fi l q = mv := ⟨_, rfl⟩
  have HCV := hid hcv
  have HMV := hid hmv
  clear hcv hmv
  go_enter Tryz.func4, Tryz.ntmps4
  go_wp2_with fail
  generalize w.alloc (.cells #[.int .i64 ho.f0, .int .i64 ho.f1, .int .i64 fi.f0, .int .i64 fi.f1, .slice A l.length c] 26) = W1 at *
  refine (thick_any ho fi A c l _ (Kd.C_below hr hbel) hc).mono ?_
  rintro e W2 ⟨rfl, hb⟩
  have HBZ := hid (And.intro (hbel.trans (hb.mono hbel.size)) (heap_grow e0 hb))
  clear hbel hb e0
  cases thickB l with
  | true =>
    go_wp2_with fail
    refine (sums_any _).mono ?_
    rintro e W3 ⟨rfl, hb⟩
    have H3 := hid (HBZ.out.1.trans (hb.mono HBZ.out.1.size))
    clear hb
    go_wp2
    go_ret
    exact ⟨rfl, H3.out⟩
  | false =>
    have y0 := blkCell HBZ.out.2 0
    have y1 := blkCell HBZ.out.2 1
    have y2 := blkCell HBZ.out.2 2
    have y3 := blkCell HBZ.out.2 3
    have y4 := blkCell HBZ.out.2 4
    simp at y0 y1 y2 y3 y4
    go_wp2_with fail
    refine (Covered_any ho fi A c l _ (Kd.C_below hr HBZ.out.1) hc).mono ?_
    rintro e WA0 ⟨rfl, hb⟩
    rw [HCV.out]
    have HB0 := hid (And.intro (HBZ.out.1.trans (hb.mono HBZ.out.1.size)) (heap_grow HBZ.out.2 hb))
    clear hb y0 y1 y2 y3 y4 HBZ
    have y0 := blkCell HB0.out.2 0
    have y1 := blkCell HB0.out.2 1
    have y2 := blkCell HB0.out.2 2
    have y3 := blkCell HB0.out.2 3
    have y4 := blkCell HB0.out.2 4
    simp at y0 y1 y2 y3 y4
    go_wp2_with fail
    refine (CoveredR_any ho fi A c l _ (Kd.C_below hr HB0.out.1) hc).mono ?_
    rintro e WA1 ⟨rfl, hb⟩
    rw [HCV.out]
    have HB1 := hid (And.intro (HB0.out.1.trans (hb.mono HB0.out.1.size)) (heap_grow HB0.out.2 hb))
    clear hb y0 y1 y2 y3 y4 HB0
    have y0 := blkCell HB1.out.2 0
    have y1 := blkCell HB1.out.2 1
    have y2 := blkCell HB1.out.2 2
    have y3 := blkCell HB1.out.2 3
    have y4 := blkCell HB1.out.2 4
    simp at y0 y1 y2 y3 y4
    go_wp2_with fail
    refine (Most_any ho fi A c l q _ (Kd.C_below hr HB1.out.1) hc).mono ?_
    rintro e WA2 ⟨rfl, hb⟩
    rw [HMV.out]
    have HB2 := hid (And.intro (HB1.out.1.trans (hb.mono HB1.out.1.size)) (heap_grow HB1.out.2 hb))
    clear hb y0 y1 y2 y3 y4 HB1
    have y0 := blkCell HB2.out.2 0
    have y1 := blkCell HB2.out.2 1
    have y2 := blkCell HB2.out.2 2
    have y3 := blkCell HB2.out.2 3
    have y4 := blkCell HB2.out.2 4
    simp at y0 y1 y2 y3 y4
    go_wp2_with fail
    refine (MostR_any ho fi A c l q _ (Kd.C_below hr HB2.out.1) hc).mono ?_
    rintro e WA3 ⟨rfl, hb⟩
    rw [HMV.out]
    have HB3 := hid (And.intro (HB2.out.1.trans (hb.mono HB2.out.1.size)) (heap_grow HB2.out.2 hb))
    clear hb y0 y1 y2 y3 y4 HB2
    go_wp2_with fail
    refine (sums_any _).mono ?_
    rintro e W9 ⟨rfl, hb⟩
    have H9 := hid (HB3.out.1.trans (hb.mono HB3.out.1.size))
    clear hb
    go_wp2
    go_ret
    exact ⟨rfl, H9.out⟩
end Go.Proofs.YtbmkbokkmmdjdaaGreat
end
