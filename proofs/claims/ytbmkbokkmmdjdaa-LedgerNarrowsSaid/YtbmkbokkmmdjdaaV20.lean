-- C7 X2 X3 X4 N51 (wip/pack9.py)
import Derived.Test.YtbmkbokkmmdjdaaV19
import Derived.Test.YtbmkbokkmmdjdaaV2
section
namespace Go.Proofs.Ytbmkbokkmmdjdaa
open Go.RowKit Go.Proofs.YtbmkbokkmmdjdaaW.PrintWords Go.Proofs.YtbmkbokkmmdjdaaW.PrintLast Go.Proofs.YtbmkbokkmmdjdaaW.PrintMore
open Q Go.Shelf
attribute [local go_sem] Oper.semAt_some wide_depth wide_fn
set_option linter.unusedVariables false
set_option linter.unusedSimpArgs false

def mostN (p : S52) (hi : Int) : Nat → Nat
  | 0 => 0
  | s + 1 => if muchB p (wrap64 (p.f4 + wrap64 (((s : Int) + 1) * hi))) = true then mostN p hi s else s + 1
theorem mostN_yes {p : S52} {hi : Int} {s : Nat} (h : muchB p (wrap64 (p.f4 + wrap64 (((s : Int) + 1) * hi))) = true) : mostN p hi (s + 1) = mostN p hi s := by rw [mostN, if_pos h]
theorem mostN_no {p : S52} {hi : Int} {s : Nat} (h : muchB p (wrap64 (p.f4 + wrap64 (((s : Int) + 1) * hi))) = false) : mostN p hi (s + 1) = s + 1 := by rw [mostN, if_neg (by rw [h]; decide)]
def mostV (ho fi : S23) (l : List S36) (lot : Int) : Int × Int :=
  if bookErr ho fi l ≠ 0 then (0, bookErr ho fi l)
  else if thereErr lot l ≠ 0 then (0, thereErr lot l)
  else if l.any (isLot 7 lot) = true then (0, 6)
  else if closedB lot l = false then (0, 8)
  else if covI (keptOf l) l < l.length then (0, 0)
  else (((mostN ((keptOf l).ps.getD ((keptOf l).at lot).1.toNat z52) ((keptOf l).at lot).2.f1 1000 : Nat) : Int), 0)
theorem there_lot {lot : Int} {l : List S36} (h : thereErr lot l = 0) : l.any (isLot 4 lot) = true := (thereErr_zero h).1
theorem lot_ok {l : List S36} {lot : Int} (h : l.any (isLot 4 lot) = true) : ∃ p, ((keptOf l).pk.find? fun p => p.1 == lot) = some p ∧ 0 ≤ p.2.1 ∧ p.2.1 < (keptOf l).ps.length := by
  have hfin := pki_take l l.length (Nat.le_refl _)
  rw [List.take_length] at hfin
  have i2 := hfin.pk lot
  rw [h] at i2
  obtain ⟨p, hp⟩ := Option.isSome_iff_exists.1 i2
  exact ⟨p, hp, hfin.at_ p (List.mem_of_find?_eq_some hp)⟩
set_option maxRecDepth 100000 in
set_option maxHeartbeats 8000000 in
set_option pp.deepTerms true in
set_option pp.maxSteps 1000000 in
theorem Most_any (ho fi : S23) (A : Option Addr) (c : Nat) (l : List S36) (lot : Int) (w : World) (hr : Kd.C k36 w A l.length l) (hc : l.length ≤ c) :
    Calls Try.prog 10 #[.agg #[.int .i64 ho.f0, .int .i64 ho.f1, .int .i64 fi.f0, .int .i64 fi.f1, .slice A l.length c], .int .i64 lot] w fun e w' => e = .returned (.tuple #[.int .i64 (mostV ho fi l lot).1, .int .i64 (mostV ho fi l lot).2]) ∧ Below w.heap.size w w' := by
  have hu := Try.underlying26
  have hu0 := Try.underlying23
  have hu1 := Try.underlying67
  have hu2 := Try.underlying52
  have hu3 := Try.underlying73
  have hu4 := Try.underlying77
  have hbel := (Below.refl w.heap.size w).alloc (Nat.le_refl _) (.cells #[.int .i64 ho.f0, .int .i64 ho.f1, .int .i64 fi.f0, .int .i64 fi.f1, .slice A l.length c] 26)
  have e0 := World.alloc_heap_new w (.cells #[.int .i64 ho.f0, .int .i64 ho.f1, .int .i64 fi.f0, .int .i64 fi.f1, .slice A l.length c] 26)
  have HR := hid hr
  have HC := hid hc
  go_enter Try.func10, Try.ntmps10
  go_wp2_with fail
  generalize w.alloc (.cells #[.int .i64 ho.f0, .int .i64 ho.f1, .int .i64 fi.f0, .int .i64 fi.f1, .slice A l.length c] 26) = W1 at *
  refine (Check_any ho fi A c l _ (Kd.C_below HR.out hbel) hc).mono ?_
  rintro e W2 ⟨rfl, hb⟩
  have hb2 := hbel.trans (hb.mono hbel.size)
  have e2 := heap_grow e0 hb
  clear hbel hb e0 hr hc
  by_cases hv : bookErr ho fi l = 0
  · have HV := hid hv
    have HL2 := hid (show l.length ≤ 1000000 by have := kept_bounds hv; omega)
    rw [hv]
    clear hv
    have y0 := blkCell e2 0
    have y1 := blkCell e2 1
    have y2 := blkCell e2 2
    have y3 := blkCell e2 3
    have y4 := blkCell e2 4
    simp at y0 y1 y2 y3 y4
    go_upto_region 5 with fail
    have hgr := (Below.refl W2.heap.size W2).alloc (Nat.le_refl _) (.cells #[.int .i64 ho.f0, .int .i64 ho.f1, .int .i64 fi.f0, .int .i64 fi.f1, .slice A l.length c, .slice A l.length c] 67)
    have e3 := World.alloc_heap_new W2 (.cells #[.int .i64 ho.f0, .int .i64 ho.f1, .int .i64 fi.f0, .int .i64 fi.f1, .slice A l.length c, .slice A l.length c] 67)
    have H3 := hid (And.intro (hb2.trans (hgr.mono hb2.size)) (And.intro (heap_grow e2 hgr) e3))
    clear hgr e3 hb2 e2 y0 y1 y2 y3 y4
    generalize W2.alloc (.cells #[.int .i64 ho.f0, .int .i64 ho.f1, .int .i64 fi.f0, .int .i64 fi.f1, .slice A l.length c, .slice A l.length c] 67) = W3 at *
    generalize W2.heap.size = B3 at *
    have y0 := blkCell H3.out.2.2 0
    have y1 := blkCell H3.out.2.2 1
    have y2 := blkCell H3.out.2.2 2
    have y3 := blkCell H3.out.2.2 3
    have y4 := blkCell H3.out.2.2 4
    have y5 := blkCell H3.out.2.2 5
    simp at y0 y1 y2 y3 y4 y5
    go_wp2_with fail
    refine (there_any ho fi A l.length c A c l lot _ (Kd.C_below HR.out H3.out.1) HL2.out).mono ?_
    rintro e W4 ⟨rfl, hb⟩
    have H4 := hid (And.intro (H3.out.1.trans (hb.mono H3.out.1.size)) (And.intro (heap_grow H3.out.2.1 hb) (heap_grow H3.out.2.2 hb)))
    clear hb H3 y0 y1 y2 y3 y4 y5
    by_cases ht : thereErr lot l = 0
    · have HT := hid ht
      rw [ht]
      clear ht
      have y0 := blkCell H4.out.2.2 0
      have y1 := blkCell H4.out.2.2 1
      have y2 := blkCell H4.out.2.2 2
      have y3 := blkCell H4.out.2.2 3
      have y4 := blkCell H4.out.2.2 4
      have y5 := blkCell H4.out.2.2 5
      simp at y0 y1 y2 y3 y4 y5
      go_wp2_with fail
      refine (lot_any ho fi A l.length c A c l 7 lot _ (Kd.C_below HR.out H4.out.1) HL2.out).mono ?_
      rintro e W5 ⟨rfl, hb⟩
      have H5 := hid (And.intro (H4.out.1.trans (hb.mono H4.out.1.size)) (And.intro (heap_grow H4.out.2.1 hb) (heap_grow H4.out.2.2 hb)))
      clear hb H4 y0 y1 y2 y3 y4 y5
      cases h7 : l.any (isLot 7 lot) with
      | true =>
        have HE := hid (show mostV ho fi l lot = (0, 6) by unfold mostV; rw [if_neg (fun hh => hh HV.out), if_neg (fun hh => hh HT.out), if_pos h7])
        clear h7
        go_wp2
        refine bodyPost_ret (v := .tuple #[.int .i64 0, .int .i64 6]) (by simp [results, Try.results10, go_sem]) rfl ⟨by rw [HE.out], H5.out.1⟩
      | false =>
        have H7 := hid h7
        clear h7
        have y0 := blkCell H5.out.2.2 0
        have y1 := blkCell H5.out.2.2 1
        have y2 := blkCell H5.out.2.2 2
        have y3 := blkCell H5.out.2.2 3
        have y4 := blkCell H5.out.2.2 4
        have y5 := blkCell H5.out.2.2 5
        simp at y0 y1 y2 y3 y4 y5
        go_wp2_with fail
        refine (closed_any ho fi A l.length c A c l lot _ (Kd.C_below HR.out H5.out.1) HL2.out HC.out).mono ?_
        rintro e W6 ⟨rfl, hb⟩
        have H6 := hid (And.intro (H5.out.1.trans (hb.mono H5.out.1.size)) (And.intro (heap_grow H5.out.2.1 hb) (heap_grow H5.out.2.2 hb)))
        clear hb H5 y0 y1 y2 y3 y4 y5
        cases h8 : closedB lot l with
        | false =>
          have HE := hid (show mostV ho fi l lot = (0, 8) by unfold mostV; rw [if_neg (fun hh => hh HV.out), if_neg (fun hh => hh HT.out), if_neg (by rw [H7.out]; decide), if_pos h8])
          clear h8
          go_wp2
          refine bodyPost_ret (v := .tuple #[.int .i64 0, .int .i64 8]) (by simp [results, Try.results10, go_sem]) rfl ⟨by rw [HE.out], H6.out.1⟩
        | true =>
          have H8 := hid h8
          clear h8
          have y0 := blkCell H6.out.2.1 0
          have y1 := blkCell H6.out.2.1 1
          have y2 := blkCell H6.out.2.1 2
          have y3 := blkCell H6.out.2.1 3
          have y4 := blkCell H6.out.2.1 4
          simp at y0 y1 y2 y3 y4
          go_wp2_with fail
          refine (kept_any ho fi A c l _ (Kd.C_below HR.out H6.out.1) (by have := kept_bounds HV.out; omega) (stepOk_all HV.out)).mono ?_
          rintro e W8 ⟨vh, vp, Bm, rfl, hBm, hrh, hrp, hmp, hb⟩
          obtain ⟨Ah, ch, rfl⟩ := own_slice hrh
          obtain ⟨Ap, cp, rfl⟩ := own_slice hrp
          clear y0 y1 y2 y3 y4
          go_upto_region 13 with fail
          have hgr := (Below.refl W8.heap.size W8).alloc (Nat.le_refl _) (.cells #[.slice Ah (keptOf l).hs.length ch, .slice Ap (keptOf l).ps.length cp, .map (some Bm)] 73)
          have e9 := World.alloc_heap_new W8 (.cells #[.slice Ah (keptOf l).hs.length ch, .slice Ap (keptOf l).ps.length cp, .map (some Bm)] 73)
          have hb9 := hb.trans (hgr.mono hb.size)
          have H9 := hid (And.intro (H6.out.1.trans (hb9.mono H6.out.1.size)) (And.intro (heap_grow H6.out.2.1 hb9) e9))
          have HP := hid (And.intro (rings_set (own_lower (Nat.zero_le _) hrp) hgr) (hmp.grow hgr))
          clear hgr e9 hb9 hBm hrh hrp hmp hb H6
          generalize W8.alloc (.cells #[.slice Ah (keptOf l).hs.length ch, .slice Ap (keptOf l).ps.length cp, .map (some Bm)] 73) = W9 at *
          generalize W8.heap.size = B9 at *
          have y0 := blkCell H9.out.2.1 0
          have y1 := blkCell H9.out.2.1 1
          have y2 := blkCell H9.out.2.1 2
          have y3 := blkCell H9.out.2.1 3
          have y4 := blkCell H9.out.2.1 4
          have y5 := blkCell H9.out.2.2 0
          have y6 := blkCell H9.out.2.2 1
          have y7 := blkCell H9.out.2.2 2
          simp at y0 y1 y2 y3 y4 y5 y6 y7
          refine wp_flow [[], [], [0, 1], [], [3], [4, 3], [2, 0, 1, 5, 4, 3]] 7
            (fun V => V.cell? ⟨w.heap.size, 0, none⟩ = some (.int .i64 ho.f0) ∧ V.cell? ⟨w.heap.size, 1, none⟩ = some (.int .i64 ho.f1) ∧ V.cell? ⟨w.heap.size, 2, none⟩ = some (.int .i64 fi.f0) ∧ V.cell? ⟨w.heap.size, 3, none⟩ = some (.int .i64 fi.f1) ∧ V.cell? ⟨w.heap.size, 4, none⟩ = some (.slice A l.length c) ∧ V.cell? ⟨B9, 0, none⟩ = some (.slice Ah (keptOf l).hs.length ch) ∧ V.cell? ⟨B9, 1, none⟩ = some (.slice Ap (keptOf l).ps.length cp) ∧ V.cell? ⟨B9, 2, none⟩ = some (.map (some Bm)) ∧ Below W9.heap.size W9 V)
            { tmps := #[.agg #[.int .i64 ho.f0, .int .i64 ho.f1, .int .i64 fi.f0, .int .i64 fi.f1, .slice A l.length c], .int .i64 lot, .pointer (some ⟨w.heap.size, 0, none⟩), undef, .int .i64 0, .int .i64 0, .int .i64 0, .pointer (some ⟨B3, 0, none⟩), .int .i64 0, .pointer (some ⟨B9, 0, none⟩), undef, undef, .agg #[.int .i64 ho.f0, .int .i64 ho.f1, .int .i64 fi.f0, .int .i64 fi.f1, .slice A l.length c], .int .i64 0, .int .i64 0, .bool false, undef, .agg #[.int .i64 ho.f0, .int .i64 ho.f1, .int .i64 fi.f0, .int .i64 fi.f1, .slice A l.length c], .pointer (some ⟨w.heap.size, 4, none⟩), .slice A l.length c, .agg #[.int .i64 ho.f0, .int .i64 ho.f1, .int .i64 fi.f0, .int .i64 fi.f1, .slice A l.length c, .slice A l.length c], .agg #[.int .i64 ho.f0, .int .i64 ho.f1, .int .i64 fi.f0, .int .i64 fi.f1, .slice A l.length c, .slice A l.length c], .int .i64 lot, .int .i64 0, .int .i64 0, .bool false, undef, .bool false, .agg #[.int .i64 ho.f0, .int .i64 ho.f1, .int .i64 fi.f0, .int .i64 fi.f1, .slice A l.length c, .slice A l.length c], .int .i64 lot, .bool false, .bool false, .agg #[.int .i64 ho.f0, .int .i64 ho.f1, .int .i64 fi.f0, .int .i64 fi.f1, .slice A l.length c, .slice A l.length c], .int .i64 lot, .bool true, .bool false, .agg #[.int .i64 ho.f0, .int .i64 ho.f1, .int .i64 fi.f0, .int .i64 fi.f1, .slice A l.length c], .agg #[.slice Ah (keptOf l).hs.length ch, .slice Ap (keptOf l).ps.length cp, .map (some Bm)], .agg #[.int .i64 ho.f0, .int .i64 ho.f1, .int .i64 fi.f0, .int .i64 fi.f1, .slice A l.length c], .agg #[.slice Ah (keptOf l).hs.length ch, .slice Ap (keptOf l).ps.length cp, .map (some Bm)], .int .i64 (covI (keptOf l) l), .pointer (some ⟨w.heap.size, 4, none⟩), .slice A l.length c, .int .i64 ((l.length : Int)), .bool (decide (covI (keptOf l) l < (l.length : Int))), undef, undef, undef, undef, undef, undef, undef, undef, undef, undef, undef, undef, undef, undef, undef, undef, undef, undef, undef, undef, undef, undef, undef, undef, undef, undef, undef], defers := [] }
            mixed (by kernel_rfl) rfl (Ahead.of3 38 45 rfl rfl (by kernel_rfl) rfl rfl) ?_ (AllFlow.ops rfl ?_) rfl ?_
          · exact ⟨y0, y1, y2, y3, y4, y5, y6, y7, (Below.refl _ _).drew⟩
          · refine ⟨?_, ?_, ?_, ?_, ?_, ?_, ?_, trivial⟩
            · exact .val 38 _ rfl rfl fun V ⟨y0, y1, y2, y3, y4, y5, y6, y7, hB_⟩ => by go_simp
            · exact .val 39 _ rfl rfl fun V ⟨y0, y1, y2, y3, y4, y5, y6, y7, hB_⟩ => by go_simp
            · refine .call 40 (.int .i64 (covI (keptOf l) l)) 30 #[.agg #[.int .i64 ho.f0, .int .i64 ho.f1, .int .i64 fi.f0, .int .i64 fi.f1, .slice A l.length c], .agg #[.slice Ah (keptOf l).hs.length ch, .slice Ap (keptOf l).ps.length cp, .map (some Bm)]] rfl rfl (fun V ⟨y0, y1, y2, y3, y4, y5, y6, y7, hB_⟩ => by go_simp) fun V ⟨y0, y1, y2, y3, y4, y5, y6, y7, hB_⟩ => ?_
              refine (covered_any ho fi A c l (keptOf l) Ah (keptOf l).hs.length ch Ap cp Bm V (Kd.C_below HR.out (H9.out.1.trans (hB_.mono H9.out.1.size))) (rings_set HP.out.1 hB_) (HP.out.2.grow hB_) (claim_ok HV.out) (kept_bounds HV.out).1 (by have := kept_bounds HV.out; omega) (by have := kept_bounds HV.out; omega)).mono ?_
              rintro e w' ⟨rfl, hb⟩
              exact ⟨rfl, cell_grow y0 hb, cell_grow y1 hb, cell_grow y2 hb, cell_grow y3 hb, cell_grow y4 hb, cell_grow y5 hb, cell_grow y6 hb, cell_grow y7 hb, hB_.trans (hb.mono hB_.size)⟩
            · exact .val 41 _ rfl rfl fun V ⟨y0, y1, y2, y3, y4, y5, y6, y7, hB_⟩ => by go_simp
            · exact .val 42 _ rfl rfl fun V ⟨y0, y1, y2, y3, y4, y5, y6, y7, hB_⟩ => by go_simp
            · exact .val 43 _ rfl rfl fun V ⟨y0, y1, y2, y3, y4, y5, y6, y7, hB_⟩ => by go_simp
            · exact .val 44 _ rfl rfl fun V ⟨y0, y1, y2, y3, y4, y5, y6, y7, hB_⟩ => by go_simp
          rintro V ⟨y0, y1, y2, y3, y4, y5, y6, y7, hB_⟩
          have H10 := hid (And.intro (H9.out.1.trans (hB_.mono H9.out.1.size)) (heap_grow H9.out.2.2 hB_))
          have HP2 := hid (And.intro (rings_set HP.out.1 hB_) (HP.out.2.grow hB_))
          clear hB_ H9 HP y0 y1 y2 y3 y4 y5 y6 y7
          by_cases hcv : covI (keptOf l) l < l.length
          · have HE := hid (show mostV ho fi l lot = (0, 0) by unfold mostV; rw [if_neg (fun hh => hh HV.out), if_neg (fun hh => hh HT.out), if_neg (by rw [H7.out]; decide), if_neg (by rw [H8.out]; decide), if_pos hcv])
            have d1 : decide (covI (keptOf l) l < (l.length : Int)) = true := decide_eq_true hcv
            clear hcv
            go_wp2
            refine bodyPost_ret (v := .tuple #[.int .i64 0, .int .i64 0]) (by simp [results, Try.results10, go_sem]) rfl ⟨by rw [HE.out], H10.out.1⟩
          · have d1 : decide (covI (keptOf l) l < (l.length : Int)) = false := decide_eq_false hcv
            obtain ⟨p0, hp0, hp1, hp2⟩ := lot_ok (l := l) (lot := lot) (there_lot HT.out)
            obtain ⟨kk, pi, sp⟩ := p0
            simp only at hp1 hp2
            obtain ⟨pj, rfl⟩ : ∃ pj : Nat, pi = pj := ⟨pi.toNat, by omega⟩
            have hpl : pj < (keptOf l).ps.length := by omega
            have hat : (keptOf l).at lot = ((pj : Int), sp) := by unfold KS.at; rw [hp0]; rfl
            obtain ⟨pp, hpp⟩ : ∃ pp, (keptOf l).ps.getD pj z52 = pp := ⟨_, rfl⟩
            have HE := hid (show mostV ho fi l lot = (((mostN pp sp.f1 1000 : Nat) : Int), 0) by
              unfold mostV
              rw [if_neg (fun hh => hh HV.out), if_neg (fun hh => hh HT.out), if_neg (by rw [H7.out]; decide), if_neg (by rw [H8.out]; decide), if_neg hcv, hat]
              simp only [Int.toNat_natCast]
              rw [hpp])
            have hlk := run_look HP2.out.2 hp0
            simp only at hlk
            obtain ⟨g, gc, hga⟩ : ∃ g gc, Ap = some ⟨g, 0, none⟩ ∧ gc = cp := by
              rcases HP2.out.1.2 with ⟨h1, h2⟩ | ⟨g1, c1, u1, h1, _⟩
              · have hx := (kept_bounds HV.out).1; injection h1 with e1 e2 e3; omega
              · injection h1 with e1 e2 e3; exact ⟨g1, c1, e1, e3.symm⟩
            obtain ⟨rfl, rfl⟩ := hga
            have z0 := blkCell H10.out.2 0
            have z1 := blkCell H10.out.2 1
            have z2 := blkCell H10.out.2 2
            simp at z0 z1 z2
            clear hcv hp0 hp1 hat
            go_upto_region 16 with fail
            have hgr := (Below.refl V.heap.size V).alloc (Nat.le_refl _) (.cells #[.int .i64 pj, .int .i64 sp.f0, .int .i64 sp.f1] 77)
            have e11 := World.alloc_heap_new V (.cells #[.int .i64 pj, .int .i64 sp.f0, .int .i64 sp.f1] 77)
            have hx1 := heap_grow H10.out.2 hgr
            have hrw := rings_set HP2.out.1 hgr
            have H11 := hid (H10.out.1.trans (hgr.mono H10.out.1.size))
            clear hgr hlk z0 z1 z2
            generalize V.alloc (.cells #[.int .i64 pj, .int .i64 sp.f0, .int .i64 sp.f1] 77) = W11 at *
            generalize V.heap.size = B11 at *
            have z0 := blkCell hx1 0
            have z1 := blkCell hx1 1
            have z2 := blkCell hx1 2
            have y0 := blkCell e11 0
            have y1 := blkCell e11 1
            have y2 := blkCell e11 2
            simp at z0 z1 z2 y0 y1 y2
            have hq : ∀ j, j < 9 → W11.cell? ⟨g, pj * 9 + j, none⟩ = (pC pp)[j]? := fun j hj => by
              have e := hrw.cellAt (pj * 9 + j) (by omega)
              rw [pF_at hpl hj, hpp] at e; exact e
            have q0 : W11.cell? ⟨g, pj * 9, none⟩ = some (.int .i64 pp.f0.f0) := hq 0 (by omega)
            have q1 := hq 1 (by omega)
            have q2 := hq 2 (by omega)
            have q3 := hq 3 (by omega)
            have q4 := hq 4 (by omega)
            have q5 := hq 5 (by omega)
            have q6 := hq 6 (by omega)
            have q7 := hq 7 (by omega)
            have q8 := hq 8 (by omega)
            simp [pC] at q1 q2 q3 q4 q5 q6 q7 q8
            have hld : decide ((pj : Int) < ((keptOf l).ps.length : Int)) = true := decide_eq_true (by omega)
            have HX1 := hid (And.intro e11 hpl)
            clear hq hrw hpp hx1 hp2 e11
            go_upto_region 17 with fail
            have hgr := (Below.refl W11.heap.size W11).alloc (Nat.le_refl _) (.cells #[.int .i64 pp.f0.f0, .int .i64 pp.f0.f1, .int .i64 pp.f1.f0, .int .i64 pp.f1.f1, .int .i64 pp.f2.f0, .int .i64 pp.f2.f1, .int .i64 pp.f3.f0, .int .i64 pp.f3.f1, .int .i64 pp.f4] 52)
            have e12 := World.alloc_heap_new W11 (.cells #[.int .i64 pp.f0.f0, .int .i64 pp.f0.f1, .int .i64 pp.f1.f0, .int .i64 pp.f1.f1, .int .i64 pp.f2.f0, .int .i64 pp.f2.f1, .int .i64 pp.f3.f0, .int .i64 pp.f3.f1, .int .i64 pp.f4] 52)
            have H12 := hid (And.intro (H11.out.trans (hgr.mono H11.out.size)) (And.intro (heap_grow HX1.out.1 hgr) e12))
            clear hgr e12 z0 z1 z2 y0 y1 y2 hld q0 q1 q2 q3 q4 q5 q6 q7 q8 HX1 H11 H10 hpl
            generalize W11.alloc (.cells #[.int .i64 pp.f0.f0, .int .i64 pp.f0.f1, .int .i64 pp.f1.f0, .int .i64 pp.f1.f1, .int .i64 pp.f2.f0, .int .i64 pp.f2.f1, .int .i64 pp.f3.f0, .int .i64 pp.f3.f1, .int .i64 pp.f4] 52) = W12 at *
            generalize W11.heap.size = B12 at *
            have HB := hid (Below.refl W12.heap.size W12)
            go_wp2_with fail
            go_loopw [4] (fun v4 X => ∃ s : Nat, s ≤ 1000 ∧ v4 = .int .i64 s ∧ Hid (mostN pp sp.f1 s = mostN pp sp.f1 1000 ∧ Below W12.heap.size W12 X)) (fun v4 _ => (intOf v4).toNat)
            case atStart => exact ⟨1000, by omega, rfl, hid ⟨rfl, HB.out⟩⟩
            case round =>
              obtain ⟨s, hs, rfl, HX⟩ := hrel
              rename World => Wk
              have e11 := heap_grow H12.out.2.1 HX.out.2
              have e12 := heap_grow H12.out.2.2 HX.out.2
              have y0 := blkCell e11 0
              have y1 := blkCell e11 1
              have y2 := blkCell e11 2
              have z0 := blkCell e12 0
              have z1 := blkCell e12 1
              have z2 := blkCell e12 2
              have z3 := blkCell e12 3
              have z4 := blkCell e12 4
              have z5 := blkCell e12 5
              have z6 := blkCell e12 6
              have z7 := blkCell e12 7
              have z8 := blkCell e12 8
              simp at y0 y1 y2 z0 z1 z2 z3 z4 z5 z6 z7 z8
              clear e11 e12
              cases s with
              | zero =>
                have HZ := hid (show mostN pp sp.f1 1000 = 0 from HX.out.1.symm)
                have H13 := hid (H12.out.1.trans (HX.out.2.mono H12.out.1.size))
                clear HX
                go_wp2
                refine bodyPost_ret (v := .tuple #[.int .i64 0, .int .i64 0]) (by simp [results, Try.results10, go_sem]) rfl ⟨by rw [HE.out, HZ.out]; rfl, H13.out⟩
              | succ s =>
                have d0 : decide (0 < ((s : Int) + 1)) = true := decide_eq_true (by omega)
                have HMU := hid (much_any pp (wrap64 (pp.f4 + wrap64 (((s : Int) + 1) * sp.f1))))
                have H13 := hid HX.out
                clear HX
                rw [show ((s + 1 : Nat) : Int) = (s : Int) + 1 by omega]
                go_wp2_with fail
                refine (HMU.out _).mono ?_
                rintro e W14 ⟨rfl, hb⟩
                have H14 := hid (H13.out.2.trans (hb.mono H13.out.2.size))
                clear hb y0 y1 y2 z0 z1 z2 z3 z4 z5 z6 z7 z8
                cases hmu : muchB pp (wrap64 (pp.f4 + wrap64 (((s : Int) + 1) * sp.f1))) with
                | true =>
                  have HM := hid (show mostN pp sp.f1 s = mostN pp sp.f1 1000 by rw [← H13.out.1, mostN_yes hmu])
                  clear hmu HMU H13
                  go_wp2
                  go_roundw
                  case rel => exact ⟨s, by omega, rfl, hid ⟨HM.out, H14.out⟩⟩
                  case measure => simp only [intOf]; omega
                | false =>
                  have HM := hid (show mostN pp sp.f1 1000 = s + 1 by rw [← H13.out.1, mostN_no hmu])
                  have H15 := hid (H12.out.1.trans (H14.out.mono H12.out.1.size))
                  clear hmu HMU H13
                  go_wp2
                  refine bodyPost_ret (v := .tuple #[.int .i64 ((s : Int) + 1), .int .i64 0]) (by simp [results, Try.results10, go_sem]) rfl ⟨by rw [HE.out, HM.out]; rfl, H15.out⟩
    · have HE := hid (show mostV ho fi l lot = (0, thereErr lot l) by unfold mostV; rw [if_neg (fun hh => hh HV.out), if_pos ht])
      obtain ⟨er, her⟩ : ∃ er, thereErr lot l = er := ⟨_, rfl⟩
      rw [her] at ht HE
      rw [her]
      have d0 : (er == 0) = false := by simpa using ht
      clear her ht
      go_wp2
      refine bodyPost_ret (v := .tuple #[.int .i64 0, .int .i64 er]) (by simp [results, Try.results10, go_sem]) rfl ⟨by rw [HE.out], H4.out.1⟩
  · have HE := hid (show mostV ho fi l lot = (0, bookErr ho fi l) by unfold mostV; rw [if_pos hv])
    have HB2 := hid hb2
    obtain ⟨er, her⟩ : ∃ er, bookErr ho fi l = er := ⟨_, rfl⟩
    rw [her] at hv HE
    rw [her]
    have d0 : (er == 0) = false := by simpa using hv
    clear her hv hb2 e2
    go_wp2
    refine bodyPost_ret (v := .tuple #[.int .i64 0, .int .i64 er]) (by simp [results, Try.results10, go_sem]) rfl ⟨by rw [HE.out], HB2.out⟩
end Go.Proofs.Ytbmkbokkmmdjdaa
end
section
namespace Go.Proofs.Ytbmkbokkmmdjdaa.Q
open Go.RowKit Go.Proofs.YtbmkbokkmmdjdaaW.PrintWords Go.Proofs.YtbmkbokkmmdjdaaW.PrintLast Go.Proofs.YtbmkbokkmmdjdaaW.PrintMore
attribute [local go_sem] max2_int min2_int max_two min_two max_three min_three max_four min_four   -- for this text's walks alone
set_option linter.unusedVariables false
set_option linter.unusedSimpArgs false

theorem eqA36 (d : Nat) (w : World) (x0 y0 : Int) (x1 y1 : Int) (x2 y2 : Int) (x3 y3 : Int) (x4 y4 : Int) (x5 y5 : Int) (x6 y6 : Int) (x7 y7 : Int) (x8 y8 : Int) (x9 y9 : Int) (x10 y10 : Int) :
    (Op.equalIn (d + 3) 36 (.agg #[.int .i64 x0, .int .u8 x1, .int .i64 x2, .int .i64 x3, .int .i64 x4, .int .i64 x5, .int .i64 x6, .int .i64 x7, .int .i64 x8, .int .i64 x9, .int .i64 x10]) (.agg #[.int .i64 y0, .int .u8 y1, .int .i64 y2, .int .i64 y3, .int .i64 y4, .int .i64 y5, .int .i64 y6, .int .i64 y7, .int .i64 y8, .int .i64 y9, .int .i64 y10])).run Try.prog w = .ok (x0 == y0 && (x1 == y1 && (x2 == y2 && (x3 == y3 && ((x4 == y4 && (x5 == y5)) && ((x6 == y6 && (x7 == y7)) && ((x8 == y8 && (x9 == y9)) && (x10 == y10)))))))) w := by
  refine eqA_of Try.underlying36 (by kernel_rfl) ?_
  refine eqf_cons (by rfl) (by go_simp; rfl) (by go_simp; rfl) (by go_simp) ?_
  refine eqf_cons (by rfl) (by go_simp; rfl) (by go_simp; rfl) (by go_simp) ?_
  refine eqf_cons (by rfl) (by go_simp; rfl) (by go_simp; rfl) (by go_simp) ?_
  refine eqf_cons (by rfl) (by go_simp; rfl) (by go_simp; rfl) (by go_simp) ?_
  refine eqf_cons (by rfl) (by go_simp) (by go_simp) (eqA23 (d + 0) w _ _ _ _) ?_
  refine eqf_cons (by rfl) (by go_simp) (by go_simp) (eqA23 (d + 0) w _ _ _ _) ?_
  refine eqf_cons (by rfl) (by go_simp) (by go_simp) (eqA23 (d + 0) w _ _ _ _) ?_
  exact eqf_last (by rfl) (by go_simp; rfl) (by go_simp; rfl) (by go_simp)
end Go.Proofs.Ytbmkbokkmmdjdaa.Q
end
section
namespace Go.Proofs.Ytbmkbokkmmdjdaa.Q
open Go.RowKit Go.Proofs.YtbmkbokkmmdjdaaW.PrintWords Go.Proofs.YtbmkbokkmmdjdaaW.PrintLast Go.Proofs.YtbmkbokkmmdjdaaW.PrintMore
attribute [local go_sem] max2_int min2_int max_two min_two max_three min_three max_four min_four   -- for this text's walks alone
set_option linter.unusedVariables false
set_option linter.unusedSimpArgs false

end Go.Proofs.Ytbmkbokkmmdjdaa.Q
end
section
namespace Go.Proofs.Ytbmkbokkmmdjdaa.Q
open Go.RowKit Go.Proofs.YtbmkbokkmmdjdaaW.PrintWords Go.Proofs.YtbmkbokkmmdjdaaW.PrintLast Go.Proofs.YtbmkbokkmmdjdaaW.PrintMore
attribute [local go_sem] max2_int min2_int max_two min_two max_three min_three max_four min_four   -- for this text's walks alone
set_option linter.unusedVariables false
set_option linter.unusedSimpArgs false

end Go.Proofs.Ytbmkbokkmmdjdaa.Q
end
section
namespace Go.Proofs.Ytbmkbokkmmdjdaa.Q
open Go.RowKit Go.Proofs.YtbmkbokkmmdjdaaW.PrintWords Go.Proofs.YtbmkbokkmmdjdaaW.PrintLast Go.Proofs.YtbmkbokkmmdjdaaW.PrintMore
attribute [local go_sem] max2_int min2_int max_two min_two max_three min_three max_four min_four   -- for this text's walks alone
set_option linter.unusedVariables false
set_option linter.unusedSimpArgs false

def culletlaw09_k.f (a0 : Int) (a1 : Int) : Option (Int × Int) := some (a0, a1)
set_option maxHeartbeats 8000000 in
set_option maxRecDepth 100000 in
theorem culletlaw09_k.calls (a0 : Int) (a1 : Int) (r1 : Int) (r2 : Int) (w : World) (h : culletlaw09_k.f a0 a1 = some (r1, r2)) :
    Calls Try.prog 51 #[.int .i64 a0, .int .i64 a1] w fun e w' => e = .returned (.agg #[.int .i64 r1, .int .i64 r2]) ∧ Below w.heap.size w w' := by
  have hu23 := Try.underlying23
  have HB := Aside0.mk (Below.refl w.heap.size w)
  have H : (some (a0, a1)) = some (r1, r2) := h
  clear h
  simp only [Option.some.injEq, Prod.mk.injEq] at H
  obtain ⟨rfl, rfl⟩ := H
  go_enter Try.func51, Try.ntmps51
  go_wp2_with (first | ((with_reducible refine gate_dst (N := 4) rfl ?_); refine box_event ?hg (N := 4) ?hd (cs := #[.int .i64 0, .int .i64 0]) (t := 23) ?hr ?_; (case hd => rfl); (case hg => rfl); (case hr => first | (go_simp; done) | (go_simp; rfl)); intro gb163 hg w3 hbox hb; have n0_ := Aside0.mk (below_step (by repeat (first | (with_reducible first | exact HB.out | apply below_alloc | apply pw_below_drewN | apply below_drew1) | exact HB.out)) hb); have n1_ := Aside0.mk (hbox); have n2_ := Aside0.mk ((by rw [hg]; exact (below_size (by repeat (first | (with_reducible first | exact HB.out | apply below_alloc | apply pw_below_drewN | apply below_drew1) | exact HB.out))) : w.heap.size ≤ gb163)); have n3_ := Aside0.mk ((by rw [hg]; exact (below_size (by repeat (first | (with_reducible first | exact HB.out | apply below_alloc | apply pw_below_drewN | apply below_drew1) | exact HB.out))) : w.heap.size ≤ gb163)); clear HB; have HB := n0_; have BK163 := n1_; have GW163 := n2_; have GE163 := n3_; clear n0_ n1_ n2_ n3_; clear hb hbox hg; have hcz4_0 : w3.cell? ⟨gb163, 0, none⟩ = some (.int .i64 0) := (blk_cell BK163.out 0).trans rfl; have hcz4_1 : w3.cell? ⟨gb163, 1, none⟩ = some (.int .i64 0) := (blk_cell BK163.out 1).trans rfl; have hfz4_0 := blk_frozen BK163.out 0; have hfz4_1 := blk_frozen BK163.out 1))
  refine bodyPost_ret (results_cell_row rfl _ _ gb163 23 #[.int .i64 a0, .int .i64 a1] (0, 0) _ rfl (by (with_reducible repeat (first | refine blk_drewN ?_ _ | refine blk_drew ?_ | refine blk_alloc ?_ _)); refine blk_put (cs := #[.int .i64 a0, .int .i64 0]) ?_ 1 _ rfl; (with_reducible repeat (first | refine blk_drewN ?_ _ | refine blk_drew ?_ | refine blk_alloc ?_ _)); refine blk_put (cs := #[.int .i64 0, .int .i64 0]) ?_ 0 _ rfl; (with_reducible repeat (first | refine blk_drewN ?_ _ | refine blk_drew ?_ | refine blk_alloc ?_ _)); exact BK163.out) Try.underlying23 rfl (by kernel_rfl)) rfl ?_
  exact ⟨by first | rfl | (simp [errW_none, errW_some] <;> rfl) | (simp [*, errW_none, errW_some] <;> rfl), by repeat (first | (with_reducible first | exact HB.out | apply below_alloc | apply pw_below_drewN | apply below_drew1 | refine below_set ?_ GE163.out) | exact HB.out)⟩

end Go.Proofs.Ytbmkbokkmmdjdaa.Q
end
