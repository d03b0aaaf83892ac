-- E1 (wip/pack9.py)
import Derived.Test.YtbmkbokkmmdjdaaP26
import Derived.Test.YtbmkbokkmmdjdaaP18
import Derived.Test.YtbmkbokkmmdjdaaP19
section
namespace Go.Proofs.Ytbmkbokkmmdjdaa
open Go.RowKit Go.Proofs.YtbmkbokkmmdjdaaW.PrintWords Go.Proofs.YtbmkbokkmmdjdaaW.PrintLast Go.Proofs.YtbmkbokkmmdjdaaW.PrintMore
open Q Go.Shelf
attribute [local go_sem] Oper.semAt_some wide_depth wide_fn
set_option linter.unusedVariables false
set_option linter.unusedSimpArgs false

attribute [local go_sem high] eqA23 eqA52 eqA60
set_option maxRecDepth 100000 in
set_option maxHeartbeats 8000000 in
set_option pp.deepTerms true in
set_option pp.maxSteps 1000000 in
theorem LedgerPeriods_any (ho fi : S23) (A : Option Addr) (c : Nat) (l : List S36) (n : Int) (w : World) (hr : Kd.C k36 w A l.length l) (hc : l.length ≤ c) :
    Calls Try.prog 6 #[.agg #[.int .i64 ho.f0, .int .i64 ho.f1, .int .i64 fi.f0, .int .i64 fi.f1, .slice A l.length c], .int .i64 n] w (RetBool true w) := by
  have hu := Try.underlying23
  have hu1 := Try.underlying60
  have hu2 := Try.underlying52
  have hu3 := Try.underlying39
  have hu4 := Try.underlying46
  have hbel := (Below.refl w.heap.size w).alloc (Nat.le_refl _) (.cells #[.int .i64 ho.f0, .int .i64 ho.f1, .int .i64 fi.f0, .int .i64 fi.f1, .slice A l.length c] 26)
  have e0 := World.alloc_heap_new w (.cells #[.int .i64 ho.f0, .int .i64 ho.f1, .int .i64 fi.f0, .int .i64 fi.f1, .slice A l.length c] 26)
  go_enter Try.func6, Try.ntmps6
  go_wp2_with fail
  generalize w.alloc (.cells #[.int .i64 ho.f0, .int .i64 ho.f1, .int .i64 fi.f0, .int .i64 fi.f1, .slice A l.length c] 26) = W1 at *
  refine (thick_any ho fi A c l _ (Kd.C_below hr hbel) hc).mono ?_
  rintro e W2 ⟨rfl, hb⟩
  have HBZ := hid (And.intro (hbel.trans (hb.mono hbel.size)) (heap_grow e0 hb))
  clear hbel hb e0
  cases thickB l with
  | true =>
    go_wp2_with fail
    refine (sums_any _).mono ?_
    rintro e W3 ⟨rfl, hb⟩
    have H3 := hid (HBZ.out.1.trans (hb.mono HBZ.out.1.size))
    clear hb
    go_wp2
    go_ret
    exact ⟨rfl, H3.out⟩
  | false =>
    have y0 := blkCell HBZ.out.2 0
    have y1 := blkCell HBZ.out.2 1
    have y2 := blkCell HBZ.out.2 2
    have y3 := blkCell HBZ.out.2 3
    have y4 := blkCell HBZ.out.2 4
    simp at y0 y1 y2 y3 y4
    go_wp2_with fail
    refine (Heaps_any ho fi A c l _ (Kd.C_below hr HBZ.out.1) hc).mono ?_
    rintro e WA ⟨v, rfl, hra, hb⟩
    obtain ⟨Aa, ca, rfl⟩ := own_slice hra
    have HBA := hid (And.intro (HBZ.out.1.trans (hb.mono HBZ.out.1.size)) (And.intro (heap_grow HBZ.out.2 hb) (own_lower (Nat.zero_le _) hra)))
    clear hb hra y0 y1 y2 y3 y4 HBZ
    have y0 := blkCell HBA.out.2.1 0
    have y1 := blkCell HBA.out.2.1 1
    have y2 := blkCell HBA.out.2.1 2
    have y3 := blkCell HBA.out.2.1 3
    have y4 := blkCell HBA.out.2.1 4
    simp at y0 y1 y2 y3 y4
    go_wp2_with fail
    refine (HeapsR_any ho fi A c l _ (Kd.C_below hr HBA.out.1) hc).mono ?_
    rintro e WB ⟨v, rfl, hrb, hb⟩
    obtain ⟨Ab, cb, rfl⟩ := own_slice hrb
    have HB0 := hid (And.intro (HBA.out.1.trans (hb.mono HBA.out.1.size)) (heap_grow HBA.out.2.1 hb))
    have HW0 := hid (And.intro HB0.out.1 (And.intro (rings_set HBA.out.2.2 hb) (own_lower (Nat.zero_le _) hrb)))
    clear hb hrb y0 y1 y2 y3 y4 HBA
    obtain ⟨hs, hhs⟩ : ∃ hs, heapsOf ho fi l = hs := ⟨_, rfl⟩
    rw [hhs] at HW0
    rw [hhs]
    have HL0 := hid (show hs.length ≤ 1000 by rw [← hhs]; unfold heapsOf; split; (rename_i hz; have := kept_bounds hz; omega); simp)
    clear hhs
    have hll := HL0.out
    generalize bookErr ho fi l = be at *
    go_wp2_with fail
    go_loopw [9] (fun v9 X => ∃ k : Nat, k ≤ hs.length ∧ v9 = .int .i64 k ∧ Hid (Below WB.heap.size WB X)) (fun v9 _ => hs.length - (intOf v9).toNat)
    case atStart => exact ⟨0, by omega, rfl, hid (Below.refl _ _)⟩
    case round =>
      obtain ⟨k, hk, rfl, HX⟩ := hrel
      rename World => Wk
      by_cases hlt : k < hs.length
      · obtain ⟨hh, hhh⟩ : ∃ x, hs.getD k z60 = x := ⟨_, rfl⟩
        have r1 := rings_set HW0.out.2.1 HX.out
        have r2 := rings_set HW0.out.2.2 HX.out
        obtain ⟨ga, gac, hga⟩ : ∃ g gc, Aa = some ⟨g, 0, none⟩ ∧ gc = ca := by
          rcases r1.2 with ⟨h1, h2⟩ | ⟨g1, c1, u1, h1, _⟩
          · injection h1 with e1 e2 e3; omega
          · injection h1 with e1 e2 e3; exact ⟨g1, c1, e1, e3.symm⟩
        obtain ⟨gb, gbc, hgb⟩ : ∃ g gc, Ab = some ⟨g, 0, none⟩ ∧ gc = cb := by
          rcases r2.2 with ⟨h1, h2⟩ | ⟨g1, c1, u1, h1, _⟩
          · injection h1 with e1 e2 e3; omega
          · injection h1 with e1 e2 e3; exact ⟨g1, c1, e1, e3.symm⟩
        obtain ⟨rfl, rfl⟩ := hga
        obtain ⟨rfl, rfl⟩ := hgb
        have hp : ∀ j, j < 6 → Wk.cell? ⟨ga, k * 6 + j, none⟩ = (hC hh)[j]? := fun j hj => by
          have e := r1.cellAt (k * 6 + j) (by omega)
          rw [hF_at hlt hj, hhh] at e; exact e
        have hq : ∀ j, j < 6 → Wk.cell? ⟨gb, k * 6 + j, none⟩ = (hC hh)[j]? := fun j hj => by
          have e := r2.cellAt (k * 6 + j) (by omega)
          rw [hF_at hlt hj, hhh] at e; exact e
        have p0 : Wk.cell? ⟨ga, k * 6, none⟩ = some (.int .i64 hh.f0.f0) := hp 0 (by omega)
        have q0 : Wk.cell? ⟨gb, k * 6, none⟩ = some (.int .i64 hh.f0.f0) := hq 0 (by omega)
        have p1 := hp 1 (by omega)
        have q1 := hq 1 (by omega)
        have p2 := hp 2 (by omega)
        have q2 := hq 2 (by omega)
        have p3 := hp 3 (by omega)
        have q3 := hq 3 (by omega)
        have p4 := hp 4 (by omega)
        have q4 := hq 4 (by omega)
        have p5 := hp 5 (by omega)
        have q5 := hq 5 (by omega)
        simp [hC] at p1 q1 p2 q2 p3 q3 p4 q4 p5 q5
        clear hp hq r1 r2 hhh
        go_upto_region 10 with fail
        refine wp_flow [[], [], [0, 1], [2, 0, 1], [], [], [4, 5], [6, 4, 5], [3, 2, 0, 1, 7, 6, 4, 5]] 9
          (fun V => V.cell? ⟨ga, k * 6, none⟩ = some (.int .i64 hh.f0.f0) ∧ V.cell? ⟨ga, k * 6 + 1, none⟩ = some (.int .i64 hh.f0.f1) ∧ V.cell? ⟨ga, k * 6 + 2, none⟩ = some (.int .i64 hh.f1.f0) ∧ V.cell? ⟨ga, k * 6 + 3, none⟩ = some (.int .i64 hh.f1.f1) ∧ V.cell? ⟨ga, k * 6 + 4, none⟩ = some (.int .i64 hh.f2.f0) ∧ V.cell? ⟨ga, k * 6 + 5, none⟩ = some (.int .i64 hh.f2.f1) ∧ V.cell? ⟨gb, k * 6, none⟩ = some (.int .i64 hh.f0.f0) ∧ V.cell? ⟨gb, k * 6 + 1, none⟩ = some (.int .i64 hh.f0.f1) ∧ V.cell? ⟨gb, k * 6 + 2, none⟩ = some (.int .i64 hh.f1.f0) ∧ V.cell? ⟨gb, k * 6 + 3, none⟩ = some (.int .i64 hh.f1.f1) ∧ V.cell? ⟨gb, k * 6 + 4, none⟩ = some (.int .i64 hh.f2.f0) ∧ V.cell? ⟨gb, k * 6 + 5, none⟩ = some (.int .i64 hh.f2.f1) ∧ Below Wk.heap.size Wk V)
          { tmps := #[.agg #[.int .i64 ho.f0, .int .i64 ho.f1, .int .i64 fi.f0, .int .i64 fi.f1, .slice A l.length c], .int .i64 n, .pointer (some ⟨w.heap.size, 0, none⟩), undef, u4, .slice (some ⟨ga, 0, none⟩) hs.length gac, .int .i64 be, .slice (some ⟨gb, 0, none⟩) hs.length gbc, .int .i64 be, .int .i64 k, undef, undef, undef, undef, undef, .agg #[.int .i64 ho.f0, .int .i64 ho.f1, .int .i64 fi.f0, .int .i64 fi.f1, .slice A l.length c], .bool false, undef, .tuple #[.slice (some ⟨ga, 0, none⟩) hs.length gac, .int .i64 be], .agg #[.int .i64 ho.f0, .int .i64 ho.f1, .int .i64 fi.f0, .int .i64 fi.f1, .slice A l.length c], .tuple #[.slice (some ⟨ga, 0, none⟩) hs.length gac, .int .i64 be], .slice (some ⟨ga, 0, none⟩) hs.length gac, .int .i64 be, .tuple #[.slice (some ⟨gb, 0, none⟩) hs.length gbc, .int .i64 be], .agg #[.int .i64 ho.f0, .int .i64 ho.f1, .int .i64 fi.f0, .int .i64 fi.f1, .slice A l.length c], .tuple #[.slice (some ⟨gb, 0, none⟩) hs.length gbc, .int .i64 be], .slice (some ⟨gb, 0, none⟩) hs.length gbc, .int .i64 be, .int .i64 be, .int .i64 be, .bool false, .bool false, .slice (some ⟨ga, 0, none⟩) hs.length gac, .int .i64 hs.length, .slice (some ⟨gb, 0, none⟩) hs.length gbc, .int .i64 hs.length, .bool false, .bool false, .int .i64 k, .slice (some ⟨gb, 0, none⟩) hs.length gbc, .int .i64 hs.length, .bool true, u42, u43, .slice (some ⟨ga, 0, none⟩) hs.length gac, .int .i64 k, .pointer (some ⟨ga, k * 6, none⟩), .agg #[.int .i64 hh.f0.f0, .int .i64 hh.f0.f1, .int .i64 hh.f1.f0, .int .i64 hh.f1.f1, .int .i64 hh.f2.f0, .int .i64 hh.f2.f1], .slice (some ⟨gb, 0, none⟩) hs.length gbc, .int .i64 k, .pointer (some ⟨gb, k * 6, none⟩), .agg #[.int .i64 hh.f0.f0, .int .i64 hh.f0.f1, .int .i64 hh.f1.f0, .int .i64 hh.f1.f1, .int .i64 hh.f2.f0, .int .i64 hh.f2.f1], .bool false, undef, undef, undef, undef, undef, undef, undef, undef, undef, undef, undef, undef, undef, undef, undef, undef, undef, undef, undef, undef, undef, undef, undef, undef, undef, undef, undef, undef, undef, undef, undef, undef, undef, undef, undef, undef, undef, undef, undef, undef, undef, undef, undef, undef, undef, undef, undef, undef, undef, undef, undef, undef, undef, undef, undef, undef, undef, undef], defers := [] }
          mixed (by kernel_rfl) rfl (Ahead.of3 44 53 rfl rfl (by kernel_rfl) rfl rfl) ?_ (AllFlow.ops rfl ?_) rfl ?_
        · exact ⟨p0, p1, p2, p3, p4, p5, q0, q1, q2, q3, q4, q5, (Below.refl _ _).drew⟩
        · refine ⟨?_, ?_, ?_, ?_, ?_, ?_, ?_, ?_, ?_, trivial⟩
          · exact .val 44 _ rfl rfl fun V ⟨x0, x1, x2, x3, x4, x5, x6, x7, x8, x9, x10, x11, hB_⟩ => by go_simp
          · exact .val 45 _ rfl rfl fun V ⟨x0, x1, x2, x3, x4, x5, x6, x7, x8, x9, x10, x11, hB_⟩ => by go_simp
          · exact .val 46 _ rfl rfl fun V ⟨x0, x1, x2, x3, x4, x5, x6, x7, x8, x9, x10, x11, hB_⟩ => by go_simp <;> exact fun hh => absurd hh (by omega)
          · exact .val 47 _ rfl rfl fun V ⟨x0, x1, x2, x3, x4, x5, x6, x7, x8, x9, x10, x11, hB_⟩ => by go_simp
          · exact .val 48 _ rfl rfl fun V ⟨x0, x1, x2, x3, x4, x5, x6, x7, x8, x9, x10, x11, hB_⟩ => by go_simp
          · exact .val 49 _ rfl rfl fun V ⟨x0, x1, x2, x3, x4, x5, x6, x7, x8, x9, x10, x11, hB_⟩ => by go_simp
          · exact .val 50 _ rfl rfl fun V ⟨x0, x1, x2, x3, x4, x5, x6, x7, x8, x9, x10, x11, hB_⟩ => by go_simp <;> exact fun hh => absurd hh (by omega)
          · exact .val 51 _ rfl rfl fun V ⟨x0, x1, x2, x3, x4, x5, x6, x7, x8, x9, x10, x11, hB_⟩ => by go_simp
          · exact .val 52 _ rfl rfl fun V ⟨x0, x1, x2, x3, x4, x5, x6, x7, x8, x9, x10, x11, hB_⟩ => by go_simp
        rintro V ⟨x0, x1, x2, x3, x4, x5, x6, x7, x8, x9, x10, x11, hB_⟩
        have HV := hid (HX.out.trans (hB_.mono HX.out.size))
        clear hB_ HX p0 q0 p1 q1 p2 q2 p3 q3 p4 q4 p5 q5
        go_wp2
        go_roundw
        case rel => exact ⟨k + 1, by omega, by go_num, HV⟩
        case measure => simp [intOf]; omega
      · obtain rfl : k = hs.length := by omega
        clear hll
        have HB1 := hid (And.intro (HB0.out.1.trans (HX.out.mono HB0.out.1.size)) (heap_grow HB0.out.2 HX.out))
        clear HX
        have y0 := blkCell HB1.out.2 0
        have y1 := blkCell HB1.out.2 1
        have y2 := blkCell HB1.out.2 2
        have y3 := blkCell HB1.out.2 3
        have y4 := blkCell HB1.out.2 4
        simp at y0 y1 y2 y3 y4
        go_wp2_with fail
        refine (Periods_any ho fi A c l _ (Kd.C_below hr HB1.out.1) hc).mono ?_
        rintro e WA ⟨v, rfl, hra, hb⟩
        obtain ⟨Aa, ca, rfl⟩ := own_slice hra
        have HBA := hid (And.intro (HB1.out.1.trans (hb.mono HB1.out.1.size)) (And.intro (heap_grow HB1.out.2 hb) (own_lower (Nat.zero_le _) hra)))
        clear hb hra y0 y1 y2 y3 y4 HB1
        have y0 := blkCell HBA.out.2.1 0
        have y1 := blkCell HBA.out.2.1 1
        have y2 := blkCell HBA.out.2.1 2
        have y3 := blkCell HBA.out.2.1 3
        have y4 := blkCell HBA.out.2.1 4
        simp at y0 y1 y2 y3 y4
        go_wp2_with fail
        refine (PeriodsR_any ho fi A c l _ (Kd.C_below hr HBA.out.1) hc).mono ?_
        rintro e WB ⟨v, rfl, hrb, hb⟩
        obtain ⟨Ab, cb, rfl⟩ := own_slice hrb
        have HB := hid (And.intro (HBA.out.1.trans (hb.mono HBA.out.1.size)) (heap_grow HBA.out.2.1 hb))
        have HW := hid (And.intro HB.out.1 (And.intro (rings_set HBA.out.2.2 hb) (own_lower (Nat.zero_le _) hrb)))
        clear hb hrb y0 y1 y2 y3 y4 HBA
        obtain ⟨ps, hps⟩ : ∃ ps, periodsOf ho fi l = ps := ⟨_, rfl⟩
        rw [hps] at HW
        rw [hps]
        have HL2 := hid (show ps.length ≤ 1000 by rw [← hps]; unfold periodsOf; split; (rename_i hz; have := kept_bounds hz; omega); simp)
        clear hps
        have hll := HL2.out
        go_wp2_with fail
        go_loopw [12] (fun v12 X => ∃ k : Nat, k ≤ ps.length ∧ v12 = .int .i64 k ∧ Hid (Below WB.heap.size WB X)) (fun v12 _ => ps.length - (intOf v12).toNat)
        case atStart => exact ⟨0, by omega, rfl, hid (Below.refl _ _)⟩
        case round =>
          obtain ⟨k, hk, rfl, HX⟩ := hrel
          rename World => Wk
          by_cases hlt : k < ps.length
          · obtain ⟨pp, hhh⟩ : ∃ x, ps.getD k z52 = x := ⟨_, rfl⟩
            have r1 := rings_set HW.out.2.1 HX.out
            have r2 := rings_set HW.out.2.2 HX.out
            obtain ⟨ga, gac, hga⟩ : ∃ g gc, Aa = some ⟨g, 0, none⟩ ∧ gc = ca := by
              rcases r1.2 with ⟨h1, h2⟩ | ⟨g1, c1, u1, h1, _⟩
              · injection h1 with e1 e2 e3; omega
              · injection h1 with e1 e2 e3; exact ⟨g1, c1, e1, e3.symm⟩
            obtain ⟨gb, gbc, hgb⟩ : ∃ g gc, Ab = some ⟨g, 0, none⟩ ∧ gc = cb := by
              rcases r2.2 with ⟨h1, h2⟩ | ⟨g1, c1, u1, h1, _⟩
              · injection h1 with e1 e2 e3; omega
              · injection h1 with e1 e2 e3; exact ⟨g1, c1, e1, e3.symm⟩
            obtain ⟨rfl, rfl⟩ := hga
            obtain ⟨rfl, rfl⟩ := hgb
            have hp : ∀ j, j < 9 → Wk.cell? ⟨ga, k * 9 + j, none⟩ = (pC pp)[j]? := fun j hj => by
              have e := r1.cellAt (k * 9 + j) (by omega)
              rw [pF_at hlt hj, hhh] at e; exact e
            have hq : ∀ j, j < 9 → Wk.cell? ⟨gb, k * 9 + j, none⟩ = (pC pp)[j]? := fun j hj => by
              have e := r2.cellAt (k * 9 + j) (by omega)
              rw [pF_at hlt hj, hhh] at e; exact e
            have p0 : Wk.cell? ⟨ga, k * 9, none⟩ = some (.int .i64 pp.f0.f0) := hp 0 (by omega)
            have q0 : Wk.cell? ⟨gb, k * 9, none⟩ = some (.int .i64 pp.f0.f0) := hq 0 (by omega)
            have p1 := hp 1 (by omega)
            have q1 := hq 1 (by omega)
            have p2 := hp 2 (by omega)
            have q2 := hq 2 (by omega)
            have p3 := hp 3 (by omega)
            have q3 := hq 3 (by omega)
            have p4 := hp 4 (by omega)
            have q4 := hq 4 (by omega)
            have p5 := hp 5 (by omega)
            have q5 := hq 5 (by omega)
            have p6 := hp 6 (by omega)
            have q6 := hq 6 (by omega)
            have p7 := hp 7 (by omega)
            have q7 := hq 7 (by omega)
            have p8 := hp 8 (by omega)
            have q8 := hq 8 (by omega)
            simp [pC] at p1 q1 p2 q2 p3 q3 p4 q4 p5 q5 p6 q6 p7 q7 p8 q8
            clear hp hq r1 r2 hhh
            go_upto_region 19 with fail
            refine wp_flow [[], [], [0, 1], [2, 0, 1], [], [], [4, 5], [6, 4, 5], [3, 2, 0, 1, 7, 6, 4, 5]] 9
              (fun V => V.cell? ⟨ga, k * 9, none⟩ = some (.int .i64 pp.f0.f0) ∧ V.cell? ⟨ga, k * 9 + 1, none⟩ = some (.int .i64 pp.f0.f1) ∧ V.cell? ⟨ga, k * 9 + 2, none⟩ = some (.int .i64 pp.f1.f0) ∧ V.cell? ⟨ga, k * 9 + 3, none⟩ = some (.int .i64 pp.f1.f1) ∧ V.cell? ⟨ga, k * 9 + 4, none⟩ = some (.int .i64 pp.f2.f0) ∧ V.cell? ⟨ga, k * 9 + 5, none⟩ = some (.int .i64 pp.f2.f1) ∧ V.cell? ⟨ga, k * 9 + 6, none⟩ = some (.int .i64 pp.f3.f0) ∧ V.cell? ⟨ga, k * 9 + 7, none⟩ = some (.int .i64 pp.f3.f1) ∧ V.cell? ⟨ga, k * 9 + 8, none⟩ = some (.int .i64 pp.f4) ∧ V.cell? ⟨gb, k * 9, none⟩ = some (.int .i64 pp.f0.f0) ∧ V.cell? ⟨gb, k * 9 + 1, none⟩ = some (.int .i64 pp.f0.f1) ∧ V.cell? ⟨gb, k * 9 + 2, none⟩ = some (.int .i64 pp.f1.f0) ∧ V.cell? ⟨gb, k * 9 + 3, none⟩ = some (.int .i64 pp.f1.f1) ∧ V.cell? ⟨gb, k * 9 + 4, none⟩ = some (.int .i64 pp.f2.f0) ∧ V.cell? ⟨gb, k * 9 + 5, none⟩ = some (.int .i64 pp.f2.f1) ∧ V.cell? ⟨gb, k * 9 + 6, none⟩ = some (.int .i64 pp.f3.f0) ∧ V.cell? ⟨gb, k * 9 + 7, none⟩ = some (.int .i64 pp.f3.f1) ∧ V.cell? ⟨gb, k * 9 + 8, none⟩ = some (.int .i64 pp.f4) ∧ Below Wk.heap.size Wk V)
              { tmps := #[.agg #[.int .i64 ho.f0, .int .i64 ho.f1, .int .i64 fi.f0, .int .i64 fi.f1, .slice A l.length c], .int .i64 n, .pointer (some ⟨w.heap.size, 0, none⟩), undef, u4, .slice Aa hs.length ca, .int .i64 (bookErr ho fi l), .slice Ab hs.length cb, .int .i64 (bookErr ho fi l), .int .i64 hs.length, .slice (some ⟨ga, 0, none⟩) ps.length gac, .slice (some ⟨gb, 0, none⟩) ps.length gbc, .int .i64 k, undef, undef, .agg #[.int .i64 ho.f0, .int .i64 ho.f1, .int .i64 fi.f0, .int .i64 fi.f1, .slice A l.length c], .bool false, undef, .tuple #[.slice Aa hs.length ca, .int .i64 be], .agg #[.int .i64 ho.f0, .int .i64 ho.f1, .int .i64 fi.f0, .int .i64 fi.f1, .slice A l.length c], .tuple #[.slice Aa hs.length ca, .int .i64 be], .slice Aa hs.length ca, .int .i64 be, .tuple #[.slice Ab hs.length cb, .int .i64 be], .agg #[.int .i64 ho.f0, .int .i64 ho.f1, .int .i64 fi.f0, .int .i64 fi.f1, .slice A l.length c], .tuple #[.slice Ab hs.length cb, .int .i64 be], .slice Ab hs.length cb, .int .i64 be, .int .i64 be, .int .i64 be, .bool false, .bool false, .slice Aa hs.length ca, .int .i64 hs.length, .slice Ab hs.length cb, .int .i64 hs.length, .bool false, .bool false, .int .i64 hs.length, .slice Ab hs.length cb, .int .i64 hs.length, .bool false, u42, u43, u44, u45, u46, u47, u48, u49, u50, u51, u52, .tuple #[.slice (some ⟨ga, 0, none⟩) ps.length gac, .int .i64 (bookErr ho fi l)], .agg #[.int .i64 ho.f0, .int .i64 ho.f1, .int .i64 fi.f0, .int .i64 fi.f1, .slice A l.length c], .tuple #[.slice (some ⟨ga, 0, none⟩) ps.length gac, .int .i64 (bookErr ho fi l)], .slice (some ⟨ga, 0, none⟩) ps.length gac, .int .i64 (bookErr ho fi l), .tuple #[.slice (some ⟨gb, 0, none⟩) ps.length gbc, .int .i64 (bookErr ho fi l)], .agg #[.int .i64 ho.f0, .int .i64 ho.f1, .int .i64 fi.f0, .int .i64 fi.f1, .slice A l.length c], .tuple #[.slice (some ⟨gb, 0, none⟩) ps.length gbc, .int .i64 (bookErr ho fi l)], .slice (some ⟨gb, 0, none⟩) ps.length gbc, .int .i64 (bookErr ho fi l), .int .i64 (bookErr ho fi l), .int .i64 (bookErr ho fi l), .bool false, .bool false, .slice (some ⟨ga, 0, none⟩) ps.length gac, .int .i64 ps.length, .slice (some ⟨gb, 0, none⟩) ps.length gbc, .int .i64 ps.length, .bool false, .bool false, .int .i64 k, .slice (some ⟨gb, 0, none⟩) ps.length gbc, .int .i64 ps.length, .bool true, u77, u78, .slice (some ⟨ga, 0, none⟩) ps.length gac, .int .i64 k, .pointer (some ⟨ga, k * 9, none⟩), .agg #[.int .i64 pp.f0.f0, .int .i64 pp.f0.f1, .int .i64 pp.f1.f0, .int .i64 pp.f1.f1, .int .i64 pp.f2.f0, .int .i64 pp.f2.f1, .int .i64 pp.f3.f0, .int .i64 pp.f3.f1, .int .i64 pp.f4], .slice (some ⟨gb, 0, none⟩) ps.length gbc, .int .i64 k, .pointer (some ⟨gb, k * 9, none⟩), .agg #[.int .i64 pp.f0.f0, .int .i64 pp.f0.f1, .int .i64 pp.f1.f0, .int .i64 pp.f1.f1, .int .i64 pp.f2.f0, .int .i64 pp.f2.f1, .int .i64 pp.f3.f0, .int .i64 pp.f3.f1, .int .i64 pp.f4], .bool false, undef, undef, undef, undef, undef, undef, undef, undef, undef, undef, undef, undef, undef, undef, undef, undef, undef, undef, undef, undef, undef, undef, undef], defers := [] }
              mixed (by kernel_rfl) rfl (Ahead.of3 79 88 rfl rfl (by kernel_rfl) rfl rfl) ?_ (AllFlow.ops rfl ?_) rfl ?_
            · exact ⟨p0, p1, p2, p3, p4, p5, p6, p7, p8, q0, q1, q2, q3, q4, q5, q6, q7, q8, (Below.refl _ _).drew⟩
            · refine ⟨?_, ?_, ?_, ?_, ?_, ?_, ?_, ?_, ?_, trivial⟩
              · exact .val 79 _ rfl rfl fun V ⟨x0, x1, x2, x3, x4, x5, x6, x7, x8, x9, x10, x11, x12, x13, x14, x15, x16, x17, hB_⟩ => by go_simp
              · exact .val 80 _ rfl rfl fun V ⟨x0, x1, x2, x3, x4, x5, x6, x7, x8, x9, x10, x11, x12, x13, x14, x15, x16, x17, hB_⟩ => by go_simp
              · exact .val 81 _ rfl rfl fun V ⟨x0, x1, x2, x3, x4, x5, x6, x7, x8, x9, x10, x11, x12, x13, x14, x15, x16, x17, hB_⟩ => by go_simp <;> exact fun hh => absurd hh (by omega)
              · exact .val 82 _ rfl rfl fun V ⟨x0, x1, x2, x3, x4, x5, x6, x7, x8, x9, x10, x11, x12, x13, x14, x15, x16, x17, hB_⟩ => by go_simp
              · exact .val 83 _ rfl rfl fun V ⟨x0, x1, x2, x3, x4, x5, x6, x7, x8, x9, x10, x11, x12, x13, x14, x15, x16, x17, hB_⟩ => by go_simp
              · exact .val 84 _ rfl rfl fun V ⟨x0, x1, x2, x3, x4, x5, x6, x7, x8, x9, x10, x11, x12, x13, x14, x15, x16, x17, hB_⟩ => by go_simp
              · exact .val 85 _ rfl rfl fun V ⟨x0, x1, x2, x3, x4, x5, x6, x7, x8, x9, x10, x11, x12, x13, x14, x15, x16, x17, hB_⟩ => by go_simp <;> exact fun hh => absurd hh (by omega)
              · exact .val 86 _ rfl rfl fun V ⟨x0, x1, x2, x3, x4, x5, x6, x7, x8, x9, x10, x11, x12, x13, x14, x15, x16, x17, hB_⟩ => by go_simp
              · exact .val 87 _ rfl rfl fun V ⟨x0, x1, x2, x3, x4, x5, x6, x7, x8, x9, x10, x11, x12, x13, x14, x15, x16, x17, hB_⟩ => by go_simp
            rintro V ⟨x0, x1, x2, x3, x4, x5, x6, x7, x8, x9, x10, x11, x12, x13, x14, x15, x16, x17, hB_⟩
            have HV := hid (HX.out.trans (hB_.mono HX.out.size))
            clear hB_ HX p0 q0 p1 q1 p2 q2 p3 q3 p4 q4 p5 q5 p6 q6 p7 q7 p8 q8
            go_wp2
            go_roundw
            case rel => exact ⟨k + 1, by omega, by go_num, HV⟩
            case measure => simp [intOf]; omega
          · obtain rfl : k = ps.length := by omega
            have HB2 := hid (And.intro (HB.out.1.trans (HX.out.mono HB.out.1.size)) (heap_grow HB.out.2 HX.out))
            clear HX
            have y0 := blkCell HB2.out.2 0
            have y1 := blkCell HB2.out.2 1
            have y2 := blkCell HB2.out.2 2
            have y3 := blkCell HB2.out.2 3
            have y4 := blkCell HB2.out.2 4
            simp at y0 y1 y2 y3 y4
            go_wp2_with fail
            refine (Share_any ho fi A c l n _ (Kd.C_below hr HB2.out.1) hc).mono ?_
            rintro e WS ⟨rfl, hb⟩
            obtain ⟨sr, hsr⟩ : ∃ sr, shareRes ho fi l n = sr := ⟨_, rfl⟩
            have HSR := hid hsr
            rw [hsr]
            have HB3 := hid (And.intro (HB2.out.1.trans (hb.mono HB2.out.1.size)) (heap_grow HB2.out.2 hb))
            clear hb hsr y0 y1 y2 y3 y4 HB2
            go_upto_region 22 with fail
            have hgr := (Below.refl WS.heap.size WS).alloc (Nat.le_refl _) (.cells #[.int .i64 sr.1.f0, .int .i64 sr.1.f1] 23)
            have e13 := World.alloc_heap_new WS (.cells #[.int .i64 sr.1.f0, .int .i64 sr.1.f1] 23)
            have HB4 := hid (And.intro (HB3.out.1.trans (hgr.mono HB3.out.1.size)) (And.intro (heap_grow HB3.out.2 hgr) e13))
            clear hgr e13 HB3
            generalize WS.alloc (.cells #[.int .i64 sr.1.f0, .int .i64 sr.1.f1] 23) = W13 at *
            generalize WS.heap.size = B13 at *
            have y0 := blkCell HB4.out.2.1 0
            have y1 := blkCell HB4.out.2.1 1
            have y2 := blkCell HB4.out.2.1 2
            have y3 := blkCell HB4.out.2.1 3
            have y4 := blkCell HB4.out.2.1 4
            simp at y0 y1 y2 y3 y4
            go_wp2_with fail
            refine (ShareR_any ho fi A c l n _ (Kd.C_below hr HB4.out.1) hc).mono ?_
            rintro e WT ⟨rfl, hb⟩
            rw [HSR.out]
            have HB5 := hid (And.intro (HB4.out.1.trans (hb.mono HB4.out.1.size)) (heap_grow HB4.out.2.2 hb))
            clear hb y0 y1 y2 y3 y4 HB4
            go_upto_region 23 with fail
            have hgr := (Below.refl WT.heap.size WT).alloc (Nat.le_refl _) (.cells #[.int .i64 sr.1.f0, .int .i64 sr.1.f1] 23)
            have e14 := World.alloc_heap_new WT (.cells #[.int .i64 sr.1.f0, .int .i64 sr.1.f1] 23)
            have e13 := heap_grow HB5.out.2 hgr
            have HB6 := hid (HB5.out.1.trans (hgr.mono HB5.out.1.size))
            clear hgr HB5
            generalize WT.alloc (.cells #[.int .i64 sr.1.f0, .int .i64 sr.1.f1] 23) = W14 at *
            generalize WT.heap.size = B14 at *
            have y0 := blkCell e13 0
            have y1 := blkCell e13 1
            have z0 := blkCell e14 0
            have z1 := blkCell e14 1
            simp at y0 y1 z0 z1
            clear e13 e14
            go_wp2_with fail
            refine (sums_any _).mono ?_
            rintro e WU ⟨rfl, hb⟩
            have HB7 := hid (HB6.out.trans (hb.mono HB6.out.size))
            clear hb y0 y1 z0 z1 HB6
            go_wp2
            go_ret
            exact ⟨rfl, HB7.out⟩
end Go.Proofs.Ytbmkbokkmmdjdaa
end
