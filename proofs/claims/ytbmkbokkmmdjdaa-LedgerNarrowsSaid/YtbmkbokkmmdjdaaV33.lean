-- E7 (wip/pack9.py)
import Derived.Test.YtbmkbokkmmdjdaaV5
import Derived.Test.YtbmkbokkmmdjdaaV21
import Derived.Test.YtbmkbokkmmdjdaaV30
import Derived.Test.YtbmkbokkmmdjdaaV14
import Derived.Test.YtbmkbokkmmdjdaaV31
import Derived.Test.YtbmkbokkmmdjdaaV32
section
namespace Go.Proofs.Ytbmkbokkmmdjdaa
open Go.RowKit Go.Proofs.YtbmkbokkmmdjdaaW.PrintWords Go.Proofs.YtbmkbokkmmdjdaaW.PrintLast Go.Proofs.YtbmkbokkmmdjdaaW.PrintMore
open Q Go.Shelf
attribute [local go_sem] Oper.semAt_some wide_depth wide_fn
set_option linter.unusedVariables false
set_option linter.unusedSimpArgs false

theorem oF_low {l : List S36} {n : Nat} (hn : n < l.length) (v : Int) : (oF l).set (n * 11 + 4) (.int .i64 v) = oF (l.set n { l.getD n z36 with f4 := ⟨v, (l.getD n z36).f4.f1⟩ }) := by
  induction l generalizing n with
  | nil => simp at hn
  | cons x r ih =>
    unfold oF
    cases n with
    | zero =>
      rw [List.flatMap_cons, List.set_cons_zero, List.flatMap_cons, Nat.zero_mul, Nat.zero_add, List.set_append_left _ _ (by simp [oC])]
      rfl
    | succ n =>
      rw [List.flatMap_cons, List.set_cons_succ, List.flatMap_cons, List.set_append_right _ _ (by simp [oC]; omega), show (n + 1) * 11 + 4 - (oC x).length = n * 11 + 4 by simp [oC]; omega]
      exact congrArg (oC x ++ ·) (ih (by simpa using hn))
theorem pull_hi {ho fi : S23} {l : List S36} (hv : bookErr ho fi l = 0) (j : Nat) : 0 ≤ 1000 * (l.getD j z36).f4.f1 ∧ 1000 * (l.getD j z36).f4.f1 ≤ 1000000000 := by
  by_cases hj : j < l.length
  · have := kilos_all hv hj
    rw [show l.getD j z36 = l[j] by simp [List.getD, hj]]
    omega
  · rw [show l.getD j z36 = z36 by simp [List.getD, hj]]
    decide
theorem pull_lo {ho fi : S23} {l : List S36} (hv : bookErr ho fi l = 0) (j : Nat) : 0 ≤ 1000 * (l.getD j z36).f4.f0 ∧ 1000 * (l.getD j z36).f4.f0 ≤ 1000000000 := by
  by_cases hj : j < l.length
  · have := kilos_all hv hj
    rw [show l.getD j z36 = l[j] by simp [List.getD, hj]]
    omega
  · rw [show l.getD j z36 = z36 by simp [List.getD, hj]]
    decide
theorem per_bd {ho fi : S23} {l : List S36} (hv : bookErr ho fi l = 0) (j : Nat) : 0 ≤ ((keptOf l).ps.getD j z52).f0.f0 ∧ ((keptOf l).ps.getD j z52).f0.f0 ≤ ((keptOf l).ps.getD j z52).f0.f1 ∧ ((keptOf l).ps.getD j z52).f0.f1 ≤ 256000000000 := by
  have h := sr_take hv l.length (Nat.le_refl _)
  have hl := (bookOk_of hv).len
  rw [List.take_length] at h
  have p : PR (l.length * 1000000000) ((keptOf l).ps.getD j z52) := getD_ok h.ps (PR.z (by omega)) j
  have a := p.g0
  have b := p.g1
  have c := p.g2
  omega
theorem set_same {l : List S36} {n : Nat} (hn : n < l.length) : l.set n (l.getD n z36) = l := by
  rw [show l.getD n z36 = l[n] by simp [List.getD, hn]]
  exact List.set_getElem_self hn
set_option maxRecDepth 100000 in
set_option maxHeartbeats 8000000 in
set_option pp.deepTerms true in
set_option pp.maxSteps 1000000 in
theorem LedgerNarrows_any (ho fi : S23) (A : Option Addr) (c : Nat) (l : List S36) (which account posts : Int) (w : World) (hr : Kd.C k36 w A l.length l) (hc : l.length ≤ c) :
    Calls Try.prog 5 #[.agg #[.int .i64 ho.f0, .int .i64 ho.f1, .int .i64 fi.f0, .int .i64 fi.f1, .slice A l.length c], .int .i64 which, .int .i64 account, .int .i64 posts] w (RetBool true w) := by
  have hu := Try.underlying23
  have hu1 := Try.underlying26
  have hu3 := Try.underlying36
  have hu4 := Try.underlying24
  have hu5 := Try.underlying52
  have hbel := (Below.refl w.heap.size w).alloc (Nat.le_refl _) (.cells #[.int .i64 ho.f0, .int .i64 ho.f1, .int .i64 fi.f0, .int .i64 fi.f1, .slice A l.length c] 26)
  have e0 := World.alloc_heap_new w (.cells #[.int .i64 ho.f0, .int .i64 ho.f1, .int .i64 fi.f0, .int .i64 fi.f1, .slice A l.length c] 26)
  have HR := hid hr
  have HC := hid hc
  clear hr hc
  go_enter Try.func5, Try.ntmps5
  go_wp2_with fail
  generalize w.alloc (.cells #[.int .i64 ho.f0, .int .i64 ho.f1, .int .i64 fi.f0, .int .i64 fi.f1, .slice A l.length c] 26) = W1 at *
  refine (thick_any ho fi A c l _ (Kd.C_below HR.out hbel) HC.out).mono ?_
  rintro e W2 ⟨rfl, hb⟩
  have HBZ := hid (And.intro (hbel.trans (hb.mono hbel.size)) (heap_grow e0 hb))
  clear hbel hb e0
  have y0 := blkCell HBZ.out.2 0
  have y1 := blkCell HBZ.out.2 1
  have y2 := blkCell HBZ.out.2 2
  have y3 := blkCell HBZ.out.2 3
  have y4 := blkCell HBZ.out.2 4
  simp at y0 y1 y2 y3 y4
  cases thickB l with
  | true =>
    go_wp2_with fail
    refine (sums_any _).mono ?_
    rintro e WS ⟨rfl, hb⟩
    have H3 := hid (HBZ.out.1.trans (hb.mono HBZ.out.1.size))
    clear hb
    go_wp2
    go_ret
    exact ⟨rfl, H3.out⟩
  | false =>
  by_cases h0 : l.length = 0
  · have d0 : ((l.length : Int) == 0) = true := by simp [h0]
    have d1 : (l.length == 0) = true := by simp [h0]
    clear h0
    go_wp2_with fail
    refine (sums_any _).mono ?_
    rintro e WS ⟨rfl, hb⟩
    have H3 := hid (HBZ.out.1.trans (hb.mono HBZ.out.1.size))
    clear hb
    go_wp2
    go_ret
    exact ⟨rfl, H3.out⟩
  have q0 : ((l.length : Int) == 0) = false := by rw [beq_eq_false_iff_ne]; omega
  have q1 : (l.length == 0) = false := by rw [beq_eq_false_iff_ne]; exact h0
  by_cases h40 : 40 < l.length
  · have d0 : decide ((40 : Int) < (l.length : Int)) = true := decide_eq_true (by omega)
    have d1 : decide (40 < l.length) = true := decide_eq_true h40
    clear h0 h40
    go_wp2_with fail
    refine (sums_any _).mono ?_
    rintro e WS ⟨rfl, hb⟩
    have H3 := hid (HBZ.out.1.trans (hb.mono HBZ.out.1.size))
    clear hb
    go_wp2
    go_ret
    exact ⟨rfl, H3.out⟩
  have d0 : decide ((40 : Int) < (l.length : Int)) = false := decide_eq_false (by omega)
  have d1 : decide (40 < l.length) = false := decide_eq_false h40
  have HL := hid (show l.length ≤ 40 by omega)
  obtain ⟨k, hk⟩ : ∃ k, l.length = k + 1 := ⟨l.length - 1, by omega⟩
  have HK := hid hk
  clear h0 h40 hk
  obtain ⟨er, her⟩ : ∃ er, bookErr ho fi l = er := ⟨_, rfl⟩
  have hck := checkR_any ho fi A c l _ (Kd.C_below HR.out HBZ.out.1) HC.out
  rw [her] at hck
  have HCK := hid hck
  have HER := hid her
  clear hck her
  go_wp2_with fail
  refine HCK.out.mono ?_
  rintro e WB ⟨rfl, hb⟩
  have HBZ' := hid (And.intro (HBZ.out.1.trans (hb.mono HBZ.out.1.size)) (heap_grow HBZ.out.2 hb))
  clear HBZ
  have HBZ := HBZ'
  clear HBZ' hb
  clear HCK y0 y1 y2 y3 y4 d0 d1 q0 q1
  have y0 := blkCell HBZ.out.2 0
  have y1 := blkCell HBZ.out.2 1
  have y2 := blkCell HBZ.out.2 2
  have y3 := blkCell HBZ.out.2 3
  have y4 := blkCell HBZ.out.2 4
  simp at y0 y1 y2 y3 y4
  by_cases hv : er = 0
  rotate_left
  · have d0 : (er != 0) = true := by simpa using hv
    clear hv
    go_wp2_with fail
    refine (sums_any _).mono ?_
    rintro e WS ⟨rfl, hb⟩
    have H3 := hid (HBZ.out.1.trans (hb.mono HBZ.out.1.size))
    clear hb
    go_wp2
    go_ret
    exact ⟨rfl, H3.out⟩
  subst hv
  have HV := HER
  clear HER
  have d0 : ((0 : Int) != 0) = false := by decide
  have hw1 : wrap64 ((l.length : Int) - 1) = (k : Int) := by rw [wrap64_id (by have := HK.out; omega) (by have := HK.out; have := HL.out; omega)]; have := HK.out; omega
  obtain ⟨nn, hnn, hnk⟩ : ∃ nn : Nat, pickS which ⟨0, (k : Int)⟩ = nn ∧ nn ≤ k := by
    have h := pick_in which (s := (⟨0, (k : Int)⟩ : S23)) (by simp)
    simp only at h
    exact ⟨(pickS which ⟨0, (k : Int)⟩).toNat, by omega, by omega⟩
  have hpk : Calls Try.prog 17 #[.int .i64 which, .int .i64 0, .int .i64 (k : Int)] WB (RetInt (pickS which ⟨0, (k : Int)⟩) WB) := picked_any which (s := (⟨0, (k : Int)⟩ : S23)) (by simp) (by simp) (by have := HK.out; have := HL.out; show (k : Int) ≤ _; omega) WB
  rw [hnn] at hpk
  have HPK := hid hpk
  have HNK := hid (show nn < l.length by have := HK.out; omega)
  clear hpk hnn hnk
  go_wp2_with fail
  refine HPK.out.mono ?_
  rintro e WD ⟨rfl, hb⟩
  have HBZ' := hid (And.intro (HBZ.out.1.trans (hb.mono HBZ.out.1.size)) (heap_grow HBZ.out.2 hb))
  clear HBZ
  have HBZ := HBZ'
  clear HBZ' hb
  clear HPK y0 y1 y2 y3 y4 hw1
  have y0 := blkCell HBZ.out.2 0
  have y1 := blkCell HBZ.out.2 1
  have y2 := blkCell HBZ.out.2 2
  have y3 := blkCell HBZ.out.2 3
  have y4 := blkCell HBZ.out.2 4
  simp at y0 y1 y2 y3 y4
  have hcc := at_T36 (Kd.C_below HR.out HBZ.out.1) (k : Int) (by omega) (by have := HK.out; omega)
  obtain ⟨ad, rfl, _⟩ := hcc
  have hg := (Below.refl WD.heap.size WD).alloc (Nat.le_refl _) (.cells #[.int .i64 ho.f0, .int .i64 ho.f1, .int .i64 fi.f0, .int .i64 fi.f1, .slice (some ad) l.length c] 26)
  have hnw := World.alloc_heap_new WD (.cells #[.int .i64 ho.f0, .int .i64 ho.f1, .int .i64 fi.f0, .int .i64 fi.f1, .slice (some ad) l.length c] 26)
  have HO := hid (show OI w ho fi (some ad) c l WD.heap.size (.slice (some ad) l.length c) (WD.alloc (.cells #[.int .i64 ho.f0, .int .i64 ho.f1, .int .i64 fi.f0, .int .i64 fi.f1, .slice (some ad) l.length c] 26)) from ⟨heap_grow HBZ.out.2 hg, hnw, HBZ.out.1.trans (hg.mono HBZ.out.1.size), cell_lt (blkCell HBZ.out.2 0)⟩)
  have HS10 := hid (show (WD.alloc (.cells #[.int .i64 ho.f0, .int .i64 ho.f1, .int .i64 fi.f0, .int .i64 fi.f1, .slice (some ad) l.length c] 26)).heap.size = WD.heap.size + 1 from World.size_alloc _ _)
  clear hg hnw HBZ
  go_upto_region 5 with fail
  generalize WD.alloc (.cells #[.int .i64 ho.f0, .int .i64 ho.f1, .int .i64 fi.f0, .int .i64 fi.f1, .slice (some ad) l.length c] 26) = W3 at *
  generalize WD.heap.size = B10 at *
  clear y0 y1 y2 y3 y4
  have y0 := blkCell HO.out.bx 0
  have y1 := blkCell HO.out.bx 1
  have y2 := blkCell HO.out.bx 2
  have y3 := blkCell HO.out.bx 3
  have y4 := blkCell HO.out.bx 4
  simp at y0 y1 y2 y3 y4
  have z0 := blkCell HO.out.o 0
  have z1 := blkCell HO.out.o 1
  have z2 := blkCell HO.out.o 2
  have z3 := blkCell HO.out.o 3
  have z4 := blkCell HO.out.o 4
  simp at z0 z1 z2 z3 z4
  have hgE := (Below.refl W3.heap.size W3).alloc (Nat.le_refl _) (.cells #[] 36)
  have HO4 := hid (HO.out.grow hgE)
  have yA := blkCell HO4.out.bx 4
  simp at yA
  have HR4 := hid (own_lower (base' := B10 + 1) (by have := HS10.out; omega) (World.ownsRow_lit (base := W3.heap.size) (e := 36) (size := 11) W3 #[] 0 (Nat.le_refl _) (by unfold maxLen; omega) rfl))
  clear hgE
  go_wp2_with (at_builtin; refine Hid.out ?_)
  refine hid ?_
  clear z0 z1 z2 z3 z4 y0 y1 y2 y3 y4 yA
  have hsE : B10 + 1 ≤ (W3.alloc (.cells #[] 36)).heap.size := by rw [World.size_alloc]; have := HS10.out; omega
  generalize W3.alloc (.cells #[] 36) = W4 at *
  generalize W3.heap.size = B4 at *
  have hkd := Kd.C_below HR.out HO4.out.be
  obtain ⟨i0, hi, hz0, hz1, hz2⟩ := info36'
  refine wpList_append_own W4 rfl _ _ 24 rfl (B10 + 1) 36 i0 _ 11 88 Try.underlying24 hi hz0 hz1 hz2 rfl (by decide) (.slice (some ⟨B4, 0, none⟩) 0 0) 0 [] rfl HR4.out ad l.length c (oF l) rfl (oF_len l) (posts_cells hkd) (oF_one l) (by have := HL.out; unfold maxLen; omega) (by have := HL.out; omega) hsE ?_
  intro v' W5 hown' hgrow _
  have hO5 := HO4.out.grown hgrow HR4.out
  rw [Nat.zero_add, List.nil_append] at hown'
  obtain ⟨g, cap, rfl⟩ := own_at hown' (by have := HK.out; omega)
  have z4 := blkCell hO5.o 4
  simp at z4
  have f4 := blkFrozen hO5.o 4
  have HO := hid (hO5.put (.slice (some ⟨g, 0, none⟩) l.length cap))
  have HRw := hid (ownsRow_setCell_other (a := ⟨B10, 4, none⟩) hown' (row_neb hown' (show B10 < B10 + 1 by omega)) (.slice (some ⟨g, 0, none⟩) l.length cap))
  clear hO5 hown' hgrow hi hz0 hz1 hz2 hkd hsE HO4 HR4
  go_upto_region 6 with fail
  generalize W5.setCell ⟨B10, 4, none⟩ (.slice (some ⟨g, 0, none⟩) l.length cap) = W8 at *
  clear z4 f4
  clear W5
  have z0 := blkCell HO.out.o 0
  have z1 := blkCell HO.out.o 1
  have z2 := blkCell HO.out.o 2
  have z3 := blkCell HO.out.o 3
  have z4 := blkCell HO.out.o 4
  simp at z0 z1 z2 z3 z4
  obtain ⟨x, hx⟩ : ∃ x, l.getD nn z36 = x := ⟨_, rfl⟩
  have hnl : (nn : Int) < (l.length : Int) := by have := HNK.out; omega
  have c4 := HRw.out.cellAt (nn * 11 + 4) (by have := HNK.out; omega)
  have c5 := HRw.out.cellAt (nn * 11 + 5) (by have := HNK.out; omega)
  rw [oF_at (l := l) (k := nn) (j := 4) HNK.out (by omega), hx] at c4
  rw [oF_at (l := l) (k := nn) (j := 5) HNK.out (by omega), hx] at c5
  have q4 : W8.cell? ⟨g, nn * 11 + 4, none⟩ = some (.int .i64 x.f4.f0) := c4
  have q5 : W8.cell? ⟨g, nn * 11 + 5, none⟩ = some (.int .i64 x.f4.f1) := c5
  obtain ⟨bq, hbq'⟩ : ∃ q, decide (x.f4.f0 < x.f4.f1) = q := ⟨_, rfl⟩
  have hbq := hid hbq'
  have HX := hid hx
  clear c4 c5 hbq' hx
  go_upto_region 7 with fail
  clear z0 z1 z2 z3 z4 hnl
  obtain ⟨Wc, hWc⟩ : ∃ W, W = W8 := ⟨_, rfl⟩
  rw [← hWc] at q4 q5 HO HRw ⊢
  clear hWc
  refine wp_flow [[], [0], [1, 0], [2, 1, 0], [], [4], [5, 4], [6, 5, 4], [3, 2, 1, 0, 7, 6, 5, 4]] 9
    (fun V => V.cell? ⟨g, nn * 11 + 4, none⟩ = some (.int .i64 x.f4.f0) ∧ V.cell? ⟨g, nn * 11 + 5, none⟩ = some (.int .i64 x.f4.f1) ∧ Below Wc.heap.size Wc V)
    { tmps := #[.agg #[.int .i64 ho.f0, .int .i64 ho.f1, .int .i64 fi.f0, .int .i64 fi.f1, .slice (some ad) l.length c], .int .i64 which, .int .i64 account, .int .i64 posts, .pointer (some ⟨w.heap.size, 0, none⟩), undef, undef, undef, .bool false, .int .i64 nn, .pointer (some ⟨B10, 0, none⟩), .pointer (some ⟨g, nn * 11 + 4, none⟩), undef, undef, undef, undef, undef, undef, undef, undef, undef, undef, undef, undef, undef, undef, undef, undef, undef, undef, undef, undef, undef, .agg #[.int .i64 ho.f0, .int .i64 ho.f1, .int .i64 fi.f0, .int .i64 fi.f1, .slice (some ad) l.length c], .bool false, .bool false, .pointer (some ⟨w.heap.size, 4, none⟩), .slice (some ad) l.length c, .int .i64 l.length, .bool false, .bool false, .bool false, .pointer (some ⟨w.heap.size, 4, none⟩), .slice (some ad) l.length c, .int .i64 l.length, .bool false, .bool false, .bool false, .agg #[.int .i64 ho.f0, .int .i64 ho.f1, .int .i64 fi.f0, .int .i64 fi.f1, .slice (some ad) l.length c], .int .i64 0, .bool false, .bool false, undef, .int .i64 which, .pointer (some ⟨w.heap.size, 4, none⟩), .slice (some ad) l.length c, .int .i64 l.length, .int .i64 (wrap64 (l.length - 1)), .int .i64 nn, .agg #[.int .i64 ho.f0, .int .i64 ho.f1, .int .i64 fi.f0, .int .i64 fi.f1, .slice (some ad) l.length c], .slice (some ⟨B4, 0, none⟩) 0 0, .pointer (some ⟨w.heap.size, 4, none⟩), .slice (some ad) l.length c, .slice (some ⟨g, 0, none⟩) l.length cap, .pointer (some ⟨B10, 4, none⟩), .pointer (some ⟨B10, 4, none⟩), .slice (some ⟨g, 0, none⟩) l.length cap, .int .i64 nn, .pointer (some ⟨g, nn * 11, none⟩), .pointer (some ⟨g, nn * 11 + 4, none⟩), .pointer (some ⟨g, nn * 11 + 4, none⟩), .pointer (some ⟨g, nn * 11 + 4, none⟩), .pointer (some ⟨g, nn * 11 + 4, none⟩), .int .i64 x.f4.f0, .pointer (some ⟨g, nn * 11 + 4, none⟩), .pointer (some ⟨g, nn * 11 + 4, none⟩), .pointer (some ⟨g, nn * 11 + 5, none⟩), .int .i64 x.f4.f1, .bool bq, undef, undef, undef, undef, undef, undef, undef, undef, undef, undef, undef, undef, undef, undef, undef, undef, undef, undef, undef, undef, undef, undef, undef, undef, undef, undef, undef, undef, undef, undef, undef, undef, undef, undef, undef, undef, undef, undef, undef, undef, undef, undef, undef, undef, undef, undef, undef, undef, undef, undef, undef, undef, undef, undef, undef, undef, undef, undef, undef, undef, undef, undef, undef, undef, undef, undef, undef, undef, undef, undef, undef, undef, undef, undef, undef, undef, undef, undef, undef, undef, undef, undef, undef, undef, undef, undef, undef, undef, undef, undef, undef, undef, undef, undef, undef, undef, undef, undef, undef, undef, undef, undef, undef, undef, undef, undef, undef, undef, undef, undef, undef, undef, undef, undef, undef, undef, undef, undef, undef, undef, undef, undef, undef, undef, undef, undef, undef, undef, undef, undef, undef, undef, undef, undef, undef, undef, undef, undef, undef, undef, undef, undef, undef, undef, undef, undef, undef, undef, undef, undef, undef, undef, undef, undef, undef, undef, undef, undef, undef, undef, undef, undef, undef, undef, undef, undef, undef, undef, undef, undef, undef, undef, undef, undef, undef, undef, undef, undef, undef, undef, undef, undef, undef, undef, undef, undef, undef, undef, undef, undef, undef, undef, undef, undef, undef, undef, undef, undef], defers := [] }
    mixed (by kernel_rfl) rfl (Ahead.of3 70 79 rfl rfl (by kernel_rfl) rfl rfl) ?_ (AllFlow.ops rfl ?_) rfl ?_
  · exact ⟨q4, q5, (Below.refl _ _).drew⟩
  · refine ⟨?_, ?_, ?_, ?_, ?_, ?_, ?_, ?_, ?_, trivial⟩
    · exact .val 70 _ rfl rfl fun V ⟨x0, x1, hB_⟩ => by go_simp
    · exact .val 71 _ rfl rfl fun V ⟨x0, x1, hB_⟩ => by go_simp
    · exact .val 72 _ rfl rfl fun V ⟨x0, x1, hB_⟩ => by go_simp
    · exact .val 73 _ rfl rfl fun V ⟨x0, x1, hB_⟩ => by go_simp
    · exact .val 74 _ rfl rfl fun V ⟨x0, x1, hB_⟩ => by go_simp
    · exact .val 75 _ rfl rfl fun V ⟨x0, x1, hB_⟩ => by go_simp
    · exact .val 76 _ rfl rfl fun V ⟨x0, x1, hB_⟩ => by go_simp
    · exact .val 77 _ rfl rfl fun V ⟨x0, x1, hB_⟩ => by go_simp
    · exact .val 78 _ rfl rfl fun V ⟨x0, x1, hB_⟩ => by go_simp <;> exact hbq.out
  rintro V ⟨x0, x1, hB_⟩
  have hb := hB_
  have HO' := hid (HO.out.grow hb)
  have HRw' := hid (rings_set HRw.out hb)
  clear HO HRw hb
  have HO := HO'
  have HRw := HRw'
  clear HO' HRw'
  have q4 := x0
  have q5 := x1
  clear x0 x1 hB_
  clear W8
  obtain ⟨m, hm⟩ : ∃ q, l.set nn (narP (l.getD nn z36)) = q := ⟨_, rfl⟩
  have HM := hid hm
  clear hm
  have HKI := hid (kilos_all HV.out HNK.out)
  go_upto_if 78 with fail
  go_cut [] from 70 to 85 (fun wc => Hid (OI w ho fi (some ad) c l B10 (.slice (some ⟨g, 0, none⟩) l.length cap) wc ∧ wc.ownsRow (B10 + 1) 36 11 (.slice (some ⟨g, 0, none⟩) l.length cap) l.length (oF m)))
  case first =>
    cases bq with
    | true =>
      have hlt := of_decide_eq_true hbq.out
      have hki := HKI.out
      rw [show l[nn]'HNK.out = l.getD nn z36 by simp [List.getD, HNK.out], HX.out] at hki
      have hw : wrap64 (x.f4.f0 + 1) = x.f4.f0 + 1 := wrap64_id (by omega) (by omega)
      have f5 := HRw.out.frozenAt (nn * 11 + 4)
      have hst := (HRw.out.stored (nn * 11 + 4) (.int .i64 (x.f4.f0 + 1))).1
      rw [oF_low HNK.out, HX.out] at hst
      have hnp : narP x = { x with f4 := ⟨x.f4.f0 + 1, x.f4.f1⟩ } := by unfold narP; rw [if_pos hlt]
      have hm := HM.out
      rw [HX.out, hnp] at hm
      rw [hm] at hst
      have HST := hid hst
      have HOC := hid (HO.out.cell HRw.out (nn * 11 + 4) (.int .i64 (x.f4.f0 + 1)))
      clear hki hlt hst hnp hm HO HRw
      go_wp2
      go_meet
      case rel => exact hid ⟨HOC.out, HST.out⟩
    | false =>
      have hlt := of_decide_eq_false hbq.out
      have hm := HM.out
      rw [show narP (l.getD nn z36) = l.getD nn z36 by rw [HX.out]; unfold narP; rw [if_neg hlt], set_same HNK.out] at hm
      have HLM := hid hm
      clear hlt hm
      go_wp2
      go_meet
      case rel => exact hid ⟨HO.out, by rw [← HLM.out]; exact HRw.out⟩
  case rest =>
  have HO' := hid hcut.out.1
  have HRw' := hid hcut.out.2
  have HNL := hid (show NL m l by rw [← HM.out]; exact nar_nl l nn)
  clear hcut HO HRw q4 q5 hbq HKI
  clear V
  have HO := HO'
  have HRw := HRw'
  clear HO' HRw'
  have y0 := blkCell HO.out.bx 0
  have y1 := blkCell HO.out.bx 1
  have y2 := blkCell HO.out.bx 2
  have y3 := blkCell HO.out.bx 3
  have y4 := blkCell HO.out.bx 4
  simp at y0 y1 y2 y3 y4
  have hhs : heapsOf ho fi l = (keptOf l).hs := by unfold heapsOf; rw [if_pos HV.out]
  have hnh : (keptOf l).hs.length ≤ l.length := by have := (kept_len l l.length (Nat.le_refl _)).2.2; rwa [List.take_length] at this
  have hhe := HeapsR_any ho fi (some ad) c l wc (Kd.C_below HR.out HO.out.be) HC.out
  rw [HV.out, hhs] at hhe
  obtain ⟨nh, hnhe⟩ : ∃ q, (keptOf l).hs.length = q := ⟨_, rfl⟩
  rw [hnhe] at hnh
  have HNHE := hid hnhe
  have HNH := hid hnh
  have HHE := hid hhe
  clear hhs hhe hnhe hnh
  go_wp2_with fail
  refine HHE.out.mono ?_
  rintro e W9 ⟨vh, rfl, hrb, hb⟩
  obtain ⟨Ab, cb, rfl⟩ := own_slice hrb
  rw [HNHE.out]
  clear hrb HHE y0 y1 y2 y3 y4
  have HO' := hid (HO.out.grow hb)
  have HRw' := hid (rings_set HRw.out hb)
  clear HO HRw hb
  have HO := HO'
  have HRw := HRw'
  clear HO' HRw'
  have y0 := blkCell HO.out.bx 0
  have y1 := blkCell HO.out.bx 1
  have y2 := blkCell HO.out.bx 2
  have y3 := blkCell HO.out.bx 3
  have y4 := blkCell HO.out.bx 4
  simp at y0 y1 y2 y3 y4
  have hwh : wrap64 (1 + (nh : Int)) = 1 + (nh : Int) := wrap64_id (by omega) (by have := HNH.out; have := HL.out; omega)
  obtain ⟨ia, hia, hib⟩ : ∃ ia : Nat, pickS account ⟨0, 1 + (nh : Int)⟩ = ia ∧ ia ≤ 1 + nh := by
    have h := pick_in account (s := (⟨0, 1 + (nh : Int)⟩ : S23)) (by show (0 : Int) ≤ 1 + (nh : Int); omega)
    simp only at h
    exact ⟨(pickS account ⟨0, 1 + (nh : Int)⟩).toNat, by omega, by omega⟩
  have hpk : Calls Try.prog 17 #[.int .i64 account, .int .i64 0, .int .i64 (1 + (nh : Int))] W9 (RetInt (pickS account ⟨0, 1 + (nh : Int)⟩) W9) := picked_any account (s := (⟨0, 1 + (nh : Int)⟩ : S23)) (by simp) (by show (0 : Int) ≤ 1 + (nh : Int); omega) (by have := HNH.out; have := HL.out; show 1 + (nh : Int) ≤ _; omega) W9
  rw [hia] at hpk
  have HPK := hid hpk
  have HIB := hid hib
  clear hpk hia hib
  go_wp2_with fail
  refine HPK.out.mono ?_
  rintro e W10 ⟨rfl, hb⟩
  clear HPK y0 y1 y2 y3 y4 hwh
  have HO' := hid (HO.out.grow hb)
  have HRw' := hid (rings_set HRw.out hb)
  clear HO HRw hb
  have HO := HO'
  have HRw := HRw'
  clear HO' HRw'
  go_upto_region 12 with fail
  generalize (if (2 : Int) < (ia : Int) then (2 : Int) else (ia : Int)) = ka
  generalize (if wrap64 ((ia : Int) - 2) < 0 then (0 : Int) else wrap64 ((ia : Int) - 2)) = kh
  clear HIB
  have y0 := blkCell HO.out.bx 0
  have y1 := blkCell HO.out.bx 1
  have y2 := blkCell HO.out.bx 2
  have y3 := blkCell HO.out.bx 3
  have y4 := blkCell HO.out.bx 4
  simp at y0 y1 y2 y3 y4
  obtain ⟨pa, hpa⟩ : ∃ q, pickS posts ⟨0, (l.length : Int)⟩ = q := ⟨_, rfl⟩
  have hpk : Calls Try.prog 17 #[.int .i64 posts, .int .i64 0, .int .i64 (l.length : Int)] W10 (RetInt (pickS posts ⟨0, (l.length : Int)⟩) W10) := picked_any posts (s := (⟨0, (l.length : Int)⟩ : S23)) (by simp) (by simp) (by have := HL.out; show (l.length : Int) ≤ _; omega) W10
  rw [hpa] at hpk
  have HPK := hid hpk
  clear hpk hpa
  go_wp2_with fail
  refine HPK.out.mono ?_
  rintro e W11 ⟨rfl, hb⟩
  clear HPK y0 y1 y2 y3 y4
  have HO' := hid (HO.out.grow hb)
  have HRw' := hid (rings_set HRw.out hb)
  clear HO HRw hb
  have HO := HO'
  have HRw := HRw'
  clear HO' HRw'
  have y0 := blkCell HO.out.bx 0
  have y1 := blkCell HO.out.bx 1
  have y2 := blkCell HO.out.bx 2
  have y3 := blkCell HO.out.bx 3
  have y4 := blkCell HO.out.bx 4
  simp at y0 y1 y2 y3 y4
  obtain ⟨X, ex, hX⟩ : ∃ q1 q2, amountV ho fi l ka kh pa = (q1, q2) := ⟨_, _, rfl⟩
  have ham := Amount_any ho fi (some ad) c l ka kh pa W11 (Kd.C_below HR.out HO.out.be) HC.out
  rw [hX] at ham
  have HAM := hid ham
  have HX := hid hX
  clear ham hX
  go_wp2_with fail
  refine HAM.out.mono ?_
  rintro e W12 ⟨rfl, hb⟩
  clear HAM y0 y1 y2 y3 y4
  have HO' := hid (HO.out.grow hb)
  have HRw' := hid (rings_set HRw.out hb)
  clear HO HRw hb
  have HO := HO'
  have HRw := HRw'
  clear HO' HRw'
  have hb := (Below.refl W12.heap.size W12).alloc (Nat.le_refl _) (.cells #[.int .i64 X.f0, .int .i64 X.f1] 23)
  have HB18 := hid (World.alloc_heap_new W12 (.cells #[.int .i64 X.f0, .int .i64 X.f1] 23))
  have HO' := hid (HO.out.grow hb)
  have HRw' := hid (rings_set HRw.out hb)
  clear HO HRw hb
  have HO := HO'
  have HRw := HRw'
  clear HO' HRw'
  go_upto_region 14 with fail
  generalize W12.alloc (.cells #[.int .i64 X.f0, .int .i64 X.f1] 23) = W13 at *
  generalize W12.heap.size = B18 at *
  have z0 := blkCell HO.out.o 0
  have z1 := blkCell HO.out.o 1
  have z2 := blkCell HO.out.o 2
  have z3 := blkCell HO.out.o 3
  have z4 := blkCell HO.out.o 4
  simp at z0 z1 z2 z3 z4
  have HLM := hid (show m.length = l.length from HNL.out.len)
  obtain ⟨Y, ey, hY⟩ : ∃ q1 q2, amountV ho fi m ka kh pa = (q1, q2) := ⟨_, _, rfl⟩
  have ham := Amount_any ho fi (some ⟨g, 0, none⟩) cap m ka kh pa W13 (by rw [HLM.out]; exact (own_posts HRw.out HLM.out).1) (by rw [HLM.out]; exact (own_posts HRw.out HLM.out).2)
  rw [HLM.out, hY] at ham
  have HAM := hid ham
  have HY := hid hY
  clear ham hY
  go_wp2_with fail
  refine HAM.out.mono ?_
  rintro e W14 ⟨rfl, hb⟩
  clear HAM z0 z1 z2 z3 z4
  have H18' := hid (heap_grow HB18.out hb)
  clear HB18
  have HB18 := H18'
  clear H18'
  have HO' := hid (HO.out.grow hb)
  have HRw' := hid (rings_set HRw.out hb)
  clear HO HRw hb
  have HO := HO'
  have HRw := HRw'
  clear HO' HRw'
  have hb := (Below.refl W14.heap.size W14).alloc (Nat.le_refl _) (.cells #[.int .i64 Y.f0, .int .i64 Y.f1] 23)
  have HB20 := hid (World.alloc_heap_new W14 (.cells #[.int .i64 Y.f0, .int .i64 Y.f1] 23))
  have H18' := hid (heap_grow HB18.out hb)
  clear HB18
  have HB18 := H18'
  clear H18'
  have HO' := hid (HO.out.grow hb)
  have HRw' := hid (rings_set HRw.out hb)
  clear HO HRw hb
  have HO := HO'
  have HRw := HRw'
  clear HO' HRw'
  go_upto_region 15 with fail
  generalize W14.alloc (.cells #[.int .i64 Y.f0, .int .i64 Y.f1] 23) = W15 at *
  generalize W14.heap.size = B20 at *
  go_cut [142] from 123 to 141 (fun v142 wx => v142 = .bool false ∧ wx = W15)
  case first =>
    by_cases hey : ey = 0
    · subst hey
      have hn := nar_amt HNL.out HV.out (k := ka) (a := kh) (n := pa) (by rw [HY.out])
      rw [HX.out, HY.out] at hn
      obtain ⟨hn1, hn2, hn3⟩ := hn
      simp only at hn1 hn2 hn3
      subst hn1
      have b0 : decide (Y.f0 < X.f0) = false := decide_eq_false (by omega)
      have b1 : decide (X.f1 < Y.f1) = false := decide_eq_false (by omega)
      have x0 := blkCell HB18.out 0
      have x1 := blkCell HB18.out 1
      have x2 := blkCell HB20.out 0
      have x3 := blkCell HB20.out 1
      simp at x0 x1 x2 x3
      clear hn2 hn3
      go_wp2
      go_meet
      case rel => exact ⟨rfl, rfl⟩
    · have b0 : (ey == 0) = false := by rw [beq_eq_false_iff_ne]; exact hey
      clear hey
      go_wp2
      go_meet
      case rel => exact ⟨rfl, rfl⟩
  case rest =>
  obtain ⟨rfl, rfl⟩ := hcut
  rename World => W15
  clear HX HY HB18 HB20
  have y0 := blkCell HO.out.bx 0
  have y1 := blkCell HO.out.bx 1
  have y2 := blkCell HO.out.bx 2
  have y3 := blkCell HO.out.bx 3
  have y4 := blkCell HO.out.bx 4
  simp at y0 y1 y2 y3 y4
  have hps : periodsOf ho fi l = (keptOf l).ps := by unfold periodsOf; rw [if_pos HV.out]
  have hpe := Periods_any ho fi (some ad) c l W15 (Kd.C_below HR.out HO.out.be) HC.out
  rw [hps, HV.out] at hpe
  have HPE := hid hpe
  clear hpe hps
  go_wp2_with fail
  refine HPE.out.mono ?_
  rintro e W16 ⟨vp, rfl, hrp, hb⟩
  have hp1 := kept_len l l.length (Nat.le_refl _)
  rw [List.take_length] at hp1
  obtain ⟨gp, cp, hvp⟩ : ∃ gp cp, vp = .slice (some ⟨gp, 0, none⟩) (keptOf l).ps.length cp := by
    rcases hrp.2 with ⟨h1, h2⟩ | ⟨g1, c1, u1, h1, _⟩
    · omega
    · exact ⟨g1, c1, h1⟩
  subst hvp
  obtain ⟨np, hnp⟩ : ∃ np, (keptOf l).ps.length = np := ⟨_, rfl⟩
  rw [hnp] at hp1
  have HRP := hid (own_lower (Nat.zero_le _) hrp)
  have HNP := hid hnp
  have HPB := hid (show np ≤ 41 by have := HL.out; omega)
  rw [hnp]
  clear HPE hrp hp1 hnp y0 y1 y2 y3 y4
  have HO' := hid (HO.out.grow hb)
  have HRw' := hid (rings_set HRw.out hb)
  clear HO HRw hb
  have HO := HO'
  have HRw := HRw'
  clear HO' HRw'
  have HB0 := hid (Below.refl W16.heap.size W16)
  go_wp2_with fail
  go_loopw [23] (fun v23 Z => ∃ i : Nat, i ≤ np ∧ v23 = .int .i64 i ∧ Hid (Below W16.heap.size W16 Z)) (fun v23 _ => np + 1 - (intOf v23).toNat)
  case atStart => exact ⟨0, by omega, rfl, HB0.out⟩
  case round =>
    obtain ⟨i, hi, rfl, HX⟩ := hrel
    rename World => Wk
    have HO1 := hid (HO.out.grow HX.out)
    have HRw1 := hid (rings_set HRw.out HX.out)
    have HRP1 := hid (rings_set HRP.out HX.out)
    by_cases hlt : i < np
    · have hlt2 : (i : Int) < (np : Int) := by omega
      obtain ⟨a, b, ha, hb1, hsub⟩ := nar_share HNL.out HV.out (i := i) (by rw [HNP.out]; exact hlt)
      have HSB := hid hsub
      have HLT := hid hlt
      have hsl := Share_any ho fi (some ad) c l i Wk (Kd.C_below HR.out HO1.out.be) HC.out
      rw [ha] at hsl
      have HSL := hid hsl
      have HBE := hid hb1
      clear ha hb1 hsub hlt hsl
      have y0 := blkCell HO1.out.bx 0
      have y1 := blkCell HO1.out.bx 1
      have y2 := blkCell HO1.out.bx 2
      have y3 := blkCell HO1.out.bx 3
      have y4 := blkCell HO1.out.bx 4
      simp at y0 y1 y2 y3 y4
      go_wp2_with fail
      refine HSL.out.mono ?_
      rintro e W8 ⟨rfl, hb⟩
      clear HSL y0 y1 y2 y3 y4 hlt2
      have hb2 := (Below.refl W8.heap.size W8).alloc (Nat.le_refl _) (.cells #[.int .i64 a.f0, .int .i64 a.f1] 23)
      have H24 := hid (World.alloc_heap_new W8 (.cells #[.int .i64 a.f0, .int .i64 a.f1] 23))
      have HX2 := hid ((HX.out.trans (hb.mono HX.out.size)).trans (hb2.mono (HX.out.trans (hb.mono HX.out.size)).size))
      clear HX HO1 HRw1 HRP1 hb hb2
      have HX := HX2
      have HO1 := hid (HO.out.grow HX.out)
      have HRw1 := hid (rings_set HRw.out HX.out)
      clear HX2
      go_upto_region 24 with fail
      generalize W8.alloc (.cells #[.int .i64 a.f0, .int .i64 a.f1] 23) = W9a at *
      generalize W8.heap.size = B24 at *
      have z0 := blkCell HO1.out.o 0
      have z1 := blkCell HO1.out.o 1
      have z2 := blkCell HO1.out.o 2
      have z3 := blkCell HO1.out.o 3
      have z4 := blkCell HO1.out.o 4
      simp at z0 z1 z2 z3 z4
      have hsm := Share_any ho fi (some ⟨g, 0, none⟩) cap m i W9a (by rw [HLM.out]; exact (own_posts HRw1.out HLM.out).1) (by rw [HLM.out]; exact (own_posts HRw1.out HLM.out).2)
      rw [HLM.out, HBE.out] at hsm
      have HSM := hid hsm
      clear hsm
      go_wp2_with fail
      refine HSM.out.mono ?_
      rintro e W8b ⟨rfl, hb⟩
      clear HSM z0 z1 z2 z3 z4
      have hb2 := (Below.refl W8b.heap.size W8b).alloc (Nat.le_refl _) (.cells #[.int .i64 b.f0, .int .i64 b.f1] 23)
      have H26 := hid (World.alloc_heap_new W8b (.cells #[.int .i64 b.f0, .int .i64 b.f1] 23))
      have HX2 := hid ((HX.out.trans (hb.mono HX.out.size)).trans (hb2.mono (HX.out.trans (hb.mono HX.out.size)).size))
      have H24' := hid (heap_grow (heap_grow H24.out hb) hb2)
      clear HX HO1 HRw1 hb hb2 H24
      go_upto_region 25 with fail
      generalize W8b.alloc (.cells #[.int .i64 b.f0, .int .i64 b.f1] 23) = W9b at *
      generalize W8b.heap.size = B26 at *
      have x0 := blkCell H24'.out 0
      have x1 := blkCell H24'.out 1
      have x2 := blkCell H26.out 0
      have x3 := blkCell H26.out 1
      simp at x0 x1 x2 x3
      have b0 : decide (b.f0 < a.f0) = false := decide_eq_false (by have := HSB.out.1; omega)
      have b1 : decide (a.f1 < b.f1) = false := decide_eq_false (by have := HSB.out.2; omega)
      have hbnd := HPB.out
      have hlt := HLT.out
      go_wp2
      go_roundw
      case rel => exact ⟨i + 1, by have := HLT.out; omega, by have := HLT.out; have := HPB.out; go_num, HX2.out⟩
      case measure => have := HLT.out; simp [intOf]; omega
    · obtain rfl : np = i := by omega
      have hlt2 : ¬ (np : Int) < (np : Int) := by omega
      clear hlt hi HO HRw HRP
      have HO := HO1
      have HRw := HRw1
      have HRP := HRP1
      clear HO1 HRw1 HRP1
      have y0 := blkCell HO.out.bx 0
      have y1 := blkCell HO.out.bx 1
      have y2 := blkCell HO.out.bx 2
      have y3 := blkCell HO.out.bx 3
      have y4 := blkCell HO.out.bx 4
      simp at y0 y1 y2 y3 y4
      obtain ⟨Z, ez, hZ⟩ : ∃ q1 q2, amountV ho fi l 0 0 l.length = (q1, q2) := ⟨_, _, rfl⟩
      have ham := Amount_any ho fi (some ad) c l 0 0 l.length Wk (Kd.C_below HR.out HO.out.be) HC.out
      rw [hZ] at ham
      have HAM := hid ham
      have HZ := hid hZ
      clear ham hZ
      go_wp2_with fail
      refine HAM.out.mono ?_
      rintro e W12 ⟨rfl, hb⟩
      clear HAM y0 y1 y2 y3 y4 hlt2
      have HRP' := hid (rings_set HRP.out hb)
      clear HRP
      have HRP := HRP'
      clear HRP'
      have HO' := hid (HO.out.grow hb)
      have HRw' := hid (rings_set HRw.out hb)
      clear HO HRw hb
      have HO := HO'
      have HRw := HRw'
      clear HO' HRw'
      have hb := (Below.refl W12.heap.size W12).alloc (Nat.le_refl _) (.cells #[.int .i64 Z.f0, .int .i64 Z.f1] 23)
      have HB28 := hid (World.alloc_heap_new W12 (.cells #[.int .i64 Z.f0, .int .i64 Z.f1] 23))
      have HRP' := hid (rings_set HRP.out hb)
      clear HRP HX
      have HRP := HRP'
      clear HRP'
      have HO' := hid (HO.out.grow hb)
      have HRw' := hid (rings_set HRw.out hb)
      clear HO HRw hb
      have HO := HO'
      have HRw := HRw'
      clear HO' HRw'
      go_upto_region 28 with fail
      generalize W12.alloc (.cells #[.int .i64 Z.f0, .int .i64 Z.f1] 23) = Wc at *
      generalize W12.heap.size = B28 at *
      have y0 := blkCell HO.out.bx 0
      have y1 := blkCell HO.out.bx 1
      have y2 := blkCell HO.out.bx 2
      have y3 := blkCell HO.out.bx 3
      have y4 := blkCell HO.out.bx 4
      simp at y0 y1 y2 y3 y4
      have hf := span_of (bookOk_of HV.out).fok
      obtain ⟨L0, hL0⟩ : ∃ q, wrap64 (1000 * fi.f0) = q := ⟨_, rfl⟩
      obtain ⟨H0, hH0⟩ : ∃ q, wrap64 (1000 * fi.f1) = q := ⟨_, rfl⟩
      have HL0 := hid (show L0 = 1000 * fi.f0 by rw [← hL0]; exact wrap64_id (by omega) (by omega))
      have HH0 := hid (show H0 = 1000 * fi.f1 by rw [← hH0]; exact wrap64_id (by omega) (by omega))
      have HLB0 := hid (show 0 ≤ L0 ∧ L0 ≤ 1000000000 ∧ 0 ≤ H0 ∧ H0 ≤ 1000000000 by have := HL0.out; have := HH0.out; omega)
      clear hf
      refine wp_flow [[], [0], [1, 0], [2, 1, 0], [], [4], [5, 4], [6, 5, 4], [3, 2, 1, 0], [7, 6, 5, 4, 8, 3, 2, 1, 0]] 10
        (fun V => V.cell? ⟨w.heap.size, 0, none⟩ = some (.int .i64 ho.f0) ∧ V.cell? ⟨w.heap.size, 1, none⟩ = some (.int .i64 ho.f1) ∧ V.cell? ⟨w.heap.size, 2, none⟩ = some (.int .i64 fi.f0) ∧ V.cell? ⟨w.heap.size, 3, none⟩ = some (.int .i64 fi.f1) ∧ V.cell? ⟨w.heap.size, 4, none⟩ = some (.slice (some ad) l.length c) ∧ Below Wc.heap.size Wc V)
        { tmps := #[.agg #[.int .i64 ho.f0, .int .i64 ho.f1, .int .i64 fi.f0, .int .i64 fi.f1, .slice (some ad) l.length c], .int .i64 which, .int .i64 account, .int .i64 posts, .pointer (some ⟨w.heap.size, 0, none⟩), undef, undef, undef, u8, .int .i64 nn, .pointer (some ⟨B10, 0, none⟩), .pointer (some ⟨g, nn * 11 + 4, none⟩), .slice Ab nh cb, .int .i64 0, .int .i64 ia, .int .u8 ka, .int .i64 kh, .int .i64 pa, .pointer (some ⟨B18, 0, none⟩), .int .i64 ez, .pointer (some ⟨B20, 0, none⟩), .int .i64 ey, .slice (some ⟨gp, 0, none⟩) np cp, .int .i64 np, u24, u25, u26, u27, .pointer (some ⟨B28, 0, none⟩), .int .i64 L0, .int .i64 H0, undef, undef, .agg #[.int .i64 ho.f0, .int .i64 ho.f1, .int .i64 fi.f0, .int .i64 fi.f1, .slice (some ad) l.length c], .bool false, .bool false, .pointer (some ⟨w.heap.size, 4, none⟩), .slice (some ad) l.length c, .int .i64 l.length, .bool false, .bool false, .bool false, .pointer (some ⟨w.heap.size, 4, none⟩), .slice (some ad) l.length c, .int .i64 l.length, .bool false, .bool false, .bool false, .agg #[.int .i64 ho.f0, .int .i64 ho.f1, .int .i64 fi.f0, .int .i64 fi.f1, .slice (some ad) l.length c], .int .i64 0, .bool false, .bool false, undef, .int .i64 which, .pointer (some ⟨w.heap.size, 4, none⟩), .slice (some ad) l.length c, .int .i64 l.length, .int .i64 (wrap64 (l.length - 1)), .int .i64 nn, .agg #[.int .i64 ho.f0, .int .i64 ho.f1, .int .i64 fi.f0, .int .i64 fi.f1, .slice (some ad) l.length c], .slice (some ⟨B4, 0, none⟩) 0 0, .pointer (some ⟨w.heap.size, 4, none⟩), .slice (some ad) l.length c, .slice (some ⟨g, 0, none⟩) l.length cap, .pointer (some ⟨B10, 4, none⟩), .pointer (some ⟨B10, 4, none⟩), .slice (some ⟨g, 0, none⟩) l.length cap, .int .i64 nn, .pointer (some ⟨g, nn * 11, none⟩), .pointer (some ⟨g, nn * 11 + 4, none⟩), u70, u71, u72, u73, u74, u75, u76, u77, u78, u79, u80, u81, u82, u83, u84, u85, .tuple #[.slice Ab nh cb, .int .i64 0], .agg #[.int .i64 ho.f0, .int .i64 ho.f1, .int .i64 fi.f0, .int .i64 fi.f1, .slice (some ad) l.length c], .tuple #[.slice Ab nh cb, .int .i64 0], .slice Ab nh cb, .int .i64 0, .int .i64 account, .slice Ab nh cb, .int .i64 nh, .int .i64 (wrap64 (1 + nh)), .int .i64 ia, .int .i64 ia, .int .i64 ka, .int .u8 ka, .int .i64 ia, .int .i64 (wrap64 (ia - 2)), .int .i64 kh, .int .i64 posts, .pointer (some ⟨w.heap.size, 4, none⟩), .slice (some ad) l.length c, .int .i64 l.length, .int .i64 pa, .tuple #[.agg #[.int .i64 X.f0, .int .i64 X.f1], .int .i64 ex], .agg #[.int .i64 ho.f0, .int .i64 ho.f1, .int .i64 fi.f0, .int .i64 fi.f1, .slice (some ad) l.length c], .int .u8 ka, .int .i64 kh, .int .i64 pa, .tuple #[.agg #[.int .i64 X.f0, .int .i64 X.f1], .int .i64 ex], .agg #[.int .i64 X.f0, .int .i64 X.f1], .int .i64 ex, .tuple #[.agg #[.int .i64 Y.f0, .int .i64 Y.f1], .int .i64 ey], .agg #[.int .i64 ho.f0, .int .i64 ho.f1, .int .i64 fi.f0, .int .i64 fi.f1, .slice (some ⟨g, 0, none⟩) l.length cap], .int .u8 ka, .int .i64 kh, .int .i64 pa, .tuple #[.agg #[.int .i64 Y.f0, .int .i64 Y.f1], .int .i64 ey], .agg #[.int .i64 Y.f0, .int .i64 Y.f1], .int .i64 ey, u123, u124, u125, u126, u127, u128, u129, u130, u131, u132, u133, u134, u135, u136, u137, u138, u139, u140, u141, .bool false, .tuple #[.slice (some ⟨gp, 0, none⟩) np cp, .int .i64 0], .agg #[.int .i64 ho.f0, .int .i64 ho.f1, .int .i64 fi.f0, .int .i64 fi.f1, .slice (some ad) l.length c], .tuple #[.slice (some ⟨gp, 0, none⟩) np cp, .int .i64 0], .slice (some ⟨gp, 0, none⟩) np cp, .int .i64 0, .int .i64 0, .bool false, .int .i64 np, .slice (some ⟨gp, 0, none⟩) np cp, .int .i64 np, .bool false, u154, u155, u156, u157, u158, u159, u160, u161, u162, u163, u164, u165, u166, u167, u168, u169, u170, u171, u172, u173, u174, u175, u176, u177, u178, u179, u180, u181, u182, u183, u184, u185, u186, u187, .tuple #[.agg #[.int .i64 Z.f0, .int .i64 Z.f1], .int .i64 ez], .agg #[.int .i64 ho.f0, .int .i64 ho.f1, .int .i64 fi.f0, .int .i64 fi.f1, .slice (some ad) l.length c], .pointer (some ⟨w.heap.size, 4, none⟩), .slice (some ad) l.length c, .int .i64 l.length, .tuple #[.agg #[.int .i64 Z.f0, .int .i64 Z.f1], .int .i64 ez], .agg #[.int .i64 Z.f0, .int .i64 Z.f1], .int .i64 ez, .pointer (some ⟨w.heap.size, 2, none⟩), .pointer (some ⟨w.heap.size, 2, none⟩), .int .i64 fi.f0, .int .i64 L0, .pointer (some ⟨w.heap.size, 2, none⟩), .pointer (some ⟨w.heap.size, 3, none⟩), .int .i64 fi.f1, .int .i64 H0, undef, undef, undef, undef, undef, undef, undef, undef, undef, undef, undef, undef, undef, undef, undef, undef, undef, undef, undef, undef, undef, undef, undef, undef, undef, undef, undef, undef, undef, undef, undef, undef, undef, undef, undef, undef, undef, undef, undef, undef, undef, undef, undef, undef, undef, undef, undef, undef, undef, undef, undef, undef, undef, undef, undef, undef, undef, undef, undef, undef, undef, undef, undef, undef, undef, undef, undef, undef, undef, undef, undef, undef, undef], defers := [] }
        mixed (by kernel_rfl) rfl (Ahead.of4 29 31 196 204 rfl rfl (by kernel_rfl) rfl rfl rfl) ?_ (AllFlow.ops rfl ?_) rfl ?_
      · exact ⟨y0, y1, y2, y3, y4, (Below.refl _ _).drew⟩
      · refine ⟨?_, ?_, ?_, ?_, ?_, ?_, ?_, ?_, ?_, ?_, trivial⟩
        · exact .val 196 _ rfl rfl fun V ⟨t0, t1, t2, t3, t4, hB_⟩ => by go_simp
        · exact .val 197 _ rfl rfl fun V ⟨t0, t1, t2, t3, t4, hB_⟩ => by go_simp
        · exact .val 198 _ rfl rfl fun V ⟨t0, t1, t2, t3, t4, hB_⟩ => by go_simp
        · exact .val 199 _ rfl rfl fun V ⟨t0, t1, t2, t3, t4, hB_⟩ => by go_simp <;> exact (wrap_i _).trans hL0
        · exact .val 200 _ rfl rfl fun V ⟨t0, t1, t2, t3, t4, hB_⟩ => by go_simp
        · exact .val 201 _ rfl rfl fun V ⟨t0, t1, t2, t3, t4, hB_⟩ => by go_simp
        · exact .val 202 _ rfl rfl fun V ⟨t0, t1, t2, t3, t4, hB_⟩ => by go_simp
        · exact .val 203 _ rfl rfl fun V ⟨t0, t1, t2, t3, t4, hB_⟩ => by go_simp <;> exact (wrap_i _).trans hH0
        · exact .val 29 _ rfl rfl fun V ⟨t0, t1, t2, t3, t4, hB_⟩ => by go_simp
        · exact .val 30 _ rfl rfl fun V ⟨t0, t1, t2, t3, t4, hB_⟩ => by go_simp
      rintro W28 ⟨t0, t1, t2, t3, t4, hB_⟩
      have hb := hB_
      have HB28' := hid (heap_grow HB28.out hb)
      have HRP' := hid (rings_set HRP.out hb)
      clear HB28 HRP
      have HB28 := HB28'
      have HRP := HRP'
      clear HB28' HRP' t0 t1 t2 t3 t4 hB_ y0 y1 y2 y3 y4 hL0 hH0
      have HO' := hid (HO.out.grow hb)
      have HRw' := hid (rings_set HRw.out hb)
      clear HO HRw hb
      have HO := HO'
      have HRw := HRw'
      clear HO' HRw'
      clear Wc
      have HB0 := hid (Below.refl W28.heap.size W28)
      go_wp2_with fail
      go_loopw [29, 30, 31] (fun v29 v30 v31 Z => ∃ i : Nat, i ≤ np ∧ v31 = .int .i64 i ∧ ∃ ga gb : Int, v29 = .int .i64 ga ∧ v30 = .int .i64 gb ∧ Hid (Below W28.heap.size W28 Z ∧ ga = L0 + gS (fun p => p.f0.f0) (keptOf l).ps i ∧ gb = H0 + gS (fun p => p.f0.f1) (keptOf l).ps i)) (fun _ _ v31 _ => np + 1 - (intOf v31).toNat)
      case atStart => exact ⟨0, by omega, rfl, _, _, rfl, rfl, hid ⟨HB0.out, by show L0 = L0 + 0; omega, by show H0 = H0 + 0; omega⟩⟩
      case round =>
        obtain ⟨i, hi, rfl, ga, gb, rfl, rfl, HX⟩ := hrel
        rename World => Wk2
        have HGAE := hid HX.out.2.1
        have HGBE := hid HX.out.2.2
        have HXB := hid HX.out.1
        clear HX
        have hnb := HPB.out
        have hga := gS_in (g := fun p => p.f0.f0) (ps := (keptOf l).ps) (M := 256000000000) (fun j => ⟨(per_bd HV.out j).1, Int.le_trans (per_bd HV.out j).2.1 (per_bd HV.out j).2.2⟩) i
        have hgb := gS_in (g := fun p => p.f0.f1) (ps := (keptOf l).ps) (M := 256000000000) (fun j => ⟨Int.le_trans (per_bd HV.out j).1 (per_bd HV.out j).2.1, (per_bd HV.out j).2.2⟩) i
        have HG := hid (And.intro hga hgb)
        clear hga hgb
        by_cases hlt : i < np
        · have hil : (i : Int) < (np : Int) := by omega
          have HLT := hid hlt
          obtain ⟨pp, hpp⟩ : ∃ q, (keptOf l).ps.getD i z52 = q := ⟨_, rfl⟩
          have hrw := rings_set HRP.out HXB.out
          have r0 : Wk2.cell? ⟨gp, i * 9, none⟩ = some (.int .i64 pp.f0.f0) := by
            have e := hrw.cellAt (i * 9 + 0) (by rw [HNP.out]; omega)
            rw [pF_at (by rw [HNP.out]; omega) (by omega), hpp] at e; exact e
          have r1 : Wk2.cell? ⟨gp, i * 9 + 1, none⟩ = some (.int .i64 pp.f0.f1) := by
            have e := hrw.cellAt (i * 9 + 1) (by rw [HNP.out]; omega)
            rw [pF_at (by rw [HNP.out]; omega) (by omega), hpp] at e; exact e
          have hpb := per_bd HV.out i
          rw [hpp] at hpb
          obtain ⟨ga2, hga2⟩ : ∃ q, wrap64 (ga + pp.f0.f0) = q := ⟨_, rfl⟩
          obtain ⟨gb2, hgb2⟩ : ∃ q, wrap64 (gb + pp.f0.f1) = q := ⟨_, rfl⟩
          have e2 : ga2 = ga + pp.f0.f0 := by rw [← hga2]; have := HGAE.out; have := HG.out; have := HLB0.out; clear hga2 hgb2; exact wrap64_id (by omega) (by omega)
          have e3 : gb2 = gb + pp.f0.f1 := by rw [← hgb2]; have := HGBE.out; have := HG.out; have := HLB0.out; clear hga2 hgb2; exact wrap64_id (by omega) (by omega)
          have HE := hid (And.intro e2 (And.intro e3 hpp))
          clear e2 e3 hpp hrw hpb
          go_upto_region 32 with fail
          clear HB0 HB28 HRP HRw HO
          obtain ⟨Wc, hWc⟩ : ∃ W, W = Wk2 := ⟨_, rfl⟩
          rw [← hWc] at r0 r1 HXB ⊢
          clear hWc
          refine wp_flow12 [[], [], [], [1, 2], [3, 1, 2], [4, 3, 1, 2], [5, 4, 3, 1, 2], [0, 6, 5, 4, 3, 1, 2], [], [], [], [9, 10], [11, 9, 10], [12, 11, 9, 10], [13, 12, 11, 9, 10], [8, 14, 13, 12, 11, 9, 10], [7, 0, 6, 5, 4, 3, 1, 2], [15, 8, 14, 13, 12, 11, 9, 10, 16, 7, 0, 6, 5, 4, 3, 1, 2]] 18 29 31
            (fun V => V.cell? ⟨gp, i * 9, none⟩ = some (.int .i64 pp.f0.f0) ∧ V.cell? ⟨gp, i * 9 + 1, none⟩ = some (.int .i64 pp.f0.f1) ∧ Below Wc.heap.size Wc V)
            { tmps := #[.agg #[.int .i64 ho.f0, .int .i64 ho.f1, .int .i64 fi.f0, .int .i64 fi.f1, .slice (some ad) l.length c], .int .i64 which, .int .i64 account, .int .i64 posts, .pointer (some ⟨w.heap.size, 0, none⟩), undef, undef, undef, u8, .int .i64 nn, .pointer (some ⟨B10, 0, none⟩), .pointer (some ⟨g, nn * 11 + 4, none⟩), .slice Ab nh cb, .int .i64 0, .int .i64 ia, .int .u8 ka, .int .i64 kh, .int .i64 pa, .pointer (some ⟨B18, 0, none⟩), .int .i64 ez, .pointer (some ⟨B20, 0, none⟩), .int .i64 ey, .slice (some ⟨gp, 0, none⟩) np cp, .int .i64 np, u24, u25, u26, u27, .pointer (some ⟨B28, 0, none⟩), .int .i64 ga2, .int .i64 gb2, .int .i64 i, undef, .agg #[.int .i64 ho.f0, .int .i64 ho.f1, .int .i64 fi.f0, .int .i64 fi.f1, .slice (some ad) l.length c], .bool false, .bool false, .pointer (some ⟨w.heap.size, 4, none⟩), .slice (some ad) l.length c, .int .i64 l.length, .bool false, .bool false, .bool false, .pointer (some ⟨w.heap.size, 4, none⟩), .slice (some ad) l.length c, .int .i64 l.length, .bool false, .bool false, .bool false, .agg #[.int .i64 ho.f0, .int .i64 ho.f1, .int .i64 fi.f0, .int .i64 fi.f1, .slice (some ad) l.length c], .int .i64 0, .bool false, .bool false, undef, .int .i64 which, .pointer (some ⟨w.heap.size, 4, none⟩), .slice (some ad) l.length c, .int .i64 l.length, .int .i64 (wrap64 (l.length - 1)), .int .i64 nn, .agg #[.int .i64 ho.f0, .int .i64 ho.f1, .int .i64 fi.f0, .int .i64 fi.f1, .slice (some ad) l.length c], .slice (some ⟨B4, 0, none⟩) 0 0, .pointer (some ⟨w.heap.size, 4, none⟩), .slice (some ad) l.length c, .slice (some ⟨g, 0, none⟩) l.length cap, .pointer (some ⟨B10, 4, none⟩), .pointer (some ⟨B10, 4, none⟩), .slice (some ⟨g, 0, none⟩) l.length cap, .int .i64 nn, .pointer (some ⟨g, nn * 11, none⟩), .pointer (some ⟨g, nn * 11 + 4, none⟩), u70, u71, u72, u73, u74, u75, u76, u77, u78, u79, u80, u81, u82, u83, u84, u85, .tuple #[.slice Ab nh cb, .int .i64 0], .agg #[.int .i64 ho.f0, .int .i64 ho.f1, .int .i64 fi.f0, .int .i64 fi.f1, .slice (some ad) l.length c], .tuple #[.slice Ab nh cb, .int .i64 0], .slice Ab nh cb, .int .i64 0, .int .i64 account, .slice Ab nh cb, .int .i64 nh, .int .i64 (wrap64 (1 + nh)), .int .i64 ia, .int .i64 ia, .int .i64 ka, .int .u8 ka, .int .i64 ia, .int .i64 (wrap64 (ia - 2)), .int .i64 kh, .int .i64 posts, .pointer (some ⟨w.heap.size, 4, none⟩), .slice (some ad) l.length c, .int .i64 l.length, .int .i64 pa, .tuple #[.agg #[.int .i64 X.f0, .int .i64 X.f1], .int .i64 ex], .agg #[.int .i64 ho.f0, .int .i64 ho.f1, .int .i64 fi.f0, .int .i64 fi.f1, .slice (some ad) l.length c], .int .u8 ka, .int .i64 kh, .int .i64 pa, .tuple #[.agg #[.int .i64 X.f0, .int .i64 X.f1], .int .i64 ex], .agg #[.int .i64 X.f0, .int .i64 X.f1], .int .i64 ex, .tuple #[.agg #[.int .i64 Y.f0, .int .i64 Y.f1], .int .i64 ey], .agg #[.int .i64 ho.f0, .int .i64 ho.f1, .int .i64 fi.f0, .int .i64 fi.f1, .slice (some ⟨g, 0, none⟩) l.length cap], .int .u8 ka, .int .i64 kh, .int .i64 pa, .tuple #[.agg #[.int .i64 Y.f0, .int .i64 Y.f1], .int .i64 ey], .agg #[.int .i64 Y.f0, .int .i64 Y.f1], .int .i64 ey, u123, u124, u125, u126, u127, u128, u129, u130, u131, u132, u133, u134, u135, u136, u137, u138, u139, u140, u141, .bool false, .tuple #[.slice (some ⟨gp, 0, none⟩) np cp, .int .i64 0], .agg #[.int .i64 ho.f0, .int .i64 ho.f1, .int .i64 fi.f0, .int .i64 fi.f1, .slice (some ad) l.length c], .tuple #[.slice (some ⟨gp, 0, none⟩) np cp, .int .i64 0], .slice (some ⟨gp, 0, none⟩) np cp, .int .i64 0, .int .i64 0, .bool false, .int .i64 np, .slice (some ⟨gp, 0, none⟩) np cp, .int .i64 np, .bool false, u154, u155, u156, u157, u158, u159, u160, u161, u162, u163, u164, u165, u166, u167, u168, u169, u170, u171, u172, u173, u174, u175, u176, u177, u178, u179, u180, u181, u182, u183, u184, u185, u186, u187, .tuple #[.agg #[.int .i64 Z.f0, .int .i64 Z.f1], .int .i64 ez], .agg #[.int .i64 ho.f0, .int .i64 ho.f1, .int .i64 fi.f0, .int .i64 fi.f1, .slice (some ad) l.length c], .pointer (some ⟨w.heap.size, 4, none⟩), .slice (some ad) l.length c, .int .i64 l.length, .tuple #[.agg #[.int .i64 Z.f0, .int .i64 Z.f1], .int .i64 ez], .agg #[.int .i64 Z.f0, .int .i64 Z.f1], .int .i64 ez, .pointer (some ⟨w.heap.size, 2, none⟩), .pointer (some ⟨w.heap.size, 2, none⟩), .int .i64 fi.f0, .int .i64 L0, .pointer (some ⟨w.heap.size, 2, none⟩), .pointer (some ⟨w.heap.size, 3, none⟩), .int .i64 fi.f1, .int .i64 H0, .int .i64 i, .slice (some ⟨gp, 0, none⟩) np cp, .int .i64 np, .bool true, u208, u209, .int .i64 ga, .slice (some ⟨gp, 0, none⟩) np cp, .int .i64 i, .pointer (some ⟨gp, i * 9, none⟩), .pointer (some ⟨gp, i * 9, none⟩), .pointer (some ⟨gp, i * 9, none⟩), .int .i64 pp.f0.f0, .int .i64 ga2, .int .i64 gb, .slice (some ⟨gp, 0, none⟩) np cp, .int .i64 i, .pointer (some ⟨gp, i * 9, none⟩), .pointer (some ⟨gp, i * 9, none⟩), .pointer (some ⟨gp, i * 9 + 1, none⟩), .int .i64 pp.f0.f1, .int .i64 gb2, undef, undef, undef, undef, undef, undef, undef, undef, undef, undef, undef, undef, undef, undef, undef, undef, undef, undef, undef, undef, undef, undef, undef, undef, undef, undef, undef, undef, undef, undef, undef, undef, undef, undef, undef, undef, undef, undef, undef, undef, undef, undef, undef, undef, undef, undef, undef, undef, undef, undef, undef], defers := [] }
            { tmps := #[.agg #[.int .i64 ho.f0, .int .i64 ho.f1, .int .i64 fi.f0, .int .i64 fi.f1, .slice (some ad) l.length c], .int .i64 which, .int .i64 account, .int .i64 posts, .pointer (some ⟨w.heap.size, 0, none⟩), undef, undef, undef, u8, .int .i64 nn, .pointer (some ⟨B10, 0, none⟩), .pointer (some ⟨g, nn * 11 + 4, none⟩), .slice Ab nh cb, .int .i64 0, .int .i64 ia, .int .u8 ka, .int .i64 kh, .int .i64 pa, .pointer (some ⟨B18, 0, none⟩), .int .i64 ez, .pointer (some ⟨B20, 0, none⟩), .int .i64 ey, .slice (some ⟨gp, 0, none⟩) np cp, .int .i64 np, u24, u25, u26, u27, .pointer (some ⟨B28, 0, none⟩), .int .i64 ga, .int .i64 gb, .int .i64 i, undef, .agg #[.int .i64 ho.f0, .int .i64 ho.f1, .int .i64 fi.f0, .int .i64 fi.f1, .slice (some ad) l.length c], .bool false, .bool false, .pointer (some ⟨w.heap.size, 4, none⟩), .slice (some ad) l.length c, .int .i64 l.length, .bool false, .bool false, .bool false, .pointer (some ⟨w.heap.size, 4, none⟩), .slice (some ad) l.length c, .int .i64 l.length, .bool false, .bool false, .bool false, .agg #[.int .i64 ho.f0, .int .i64 ho.f1, .int .i64 fi.f0, .int .i64 fi.f1, .slice (some ad) l.length c], .int .i64 0, .bool false, .bool false, undef, .int .i64 which, .pointer (some ⟨w.heap.size, 4, none⟩), .slice (some ad) l.length c, .int .i64 l.length, .int .i64 (wrap64 (l.length - 1)), .int .i64 nn, .agg #[.int .i64 ho.f0, .int .i64 ho.f1, .int .i64 fi.f0, .int .i64 fi.f1, .slice (some ad) l.length c], .slice (some ⟨B4, 0, none⟩) 0 0, .pointer (some ⟨w.heap.size, 4, none⟩), .slice (some ad) l.length c, .slice (some ⟨g, 0, none⟩) l.length cap, .pointer (some ⟨B10, 4, none⟩), .pointer (some ⟨B10, 4, none⟩), .slice (some ⟨g, 0, none⟩) l.length cap, .int .i64 nn, .pointer (some ⟨g, nn * 11, none⟩), .pointer (some ⟨g, nn * 11 + 4, none⟩), u70, u71, u72, u73, u74, u75, u76, u77, u78, u79, u80, u81, u82, u83, u84, u85, .tuple #[.slice Ab nh cb, .int .i64 0], .agg #[.int .i64 ho.f0, .int .i64 ho.f1, .int .i64 fi.f0, .int .i64 fi.f1, .slice (some ad) l.length c], .tuple #[.slice Ab nh cb, .int .i64 0], .slice Ab nh cb, .int .i64 0, .int .i64 account, .slice Ab nh cb, .int .i64 nh, .int .i64 (wrap64 (1 + nh)), .int .i64 ia, .int .i64 ia, .int .i64 ka, .int .u8 ka, .int .i64 ia, .int .i64 (wrap64 (ia - 2)), .int .i64 kh, .int .i64 posts, .pointer (some ⟨w.heap.size, 4, none⟩), .slice (some ad) l.length c, .int .i64 l.length, .int .i64 pa, .tuple #[.agg #[.int .i64 X.f0, .int .i64 X.f1], .int .i64 ex], .agg #[.int .i64 ho.f0, .int .i64 ho.f1, .int .i64 fi.f0, .int .i64 fi.f1, .slice (some ad) l.length c], .int .u8 ka, .int .i64 kh, .int .i64 pa, .tuple #[.agg #[.int .i64 X.f0, .int .i64 X.f1], .int .i64 ex], .agg #[.int .i64 X.f0, .int .i64 X.f1], .int .i64 ex, .tuple #[.agg #[.int .i64 Y.f0, .int .i64 Y.f1], .int .i64 ey], .agg #[.int .i64 ho.f0, .int .i64 ho.f1, .int .i64 fi.f0, .int .i64 fi.f1, .slice (some ⟨g, 0, none⟩) l.length cap], .int .u8 ka, .int .i64 kh, .int .i64 pa, .tuple #[.agg #[.int .i64 Y.f0, .int .i64 Y.f1], .int .i64 ey], .agg #[.int .i64 Y.f0, .int .i64 Y.f1], .int .i64 ey, u123, u124, u125, u126, u127, u128, u129, u130, u131, u132, u133, u134, u135, u136, u137, u138, u139, u140, u141, .bool false, .tuple #[.slice (some ⟨gp, 0, none⟩) np cp, .int .i64 0], .agg #[.int .i64 ho.f0, .int .i64 ho.f1, .int .i64 fi.f0, .int .i64 fi.f1, .slice (some ad) l.length c], .tuple #[.slice (some ⟨gp, 0, none⟩) np cp, .int .i64 0], .slice (some ⟨gp, 0, none⟩) np cp, .int .i64 0, .int .i64 0, .bool false, .int .i64 np, .slice (some ⟨gp, 0, none⟩) np cp, .int .i64 np, .bool false, u154, u155, u156, u157, u158, u159, u160, u161, u162, u163, u164, u165, u166, u167, u168, u169, u170, u171, u172, u173, u174, u175, u176, u177, u178, u179, u180, u181, u182, u183, u184, u185, u186, u187, .tuple #[.agg #[.int .i64 Z.f0, .int .i64 Z.f1], .int .i64 ez], .agg #[.int .i64 ho.f0, .int .i64 ho.f1, .int .i64 fi.f0, .int .i64 fi.f1, .slice (some ad) l.length c], .pointer (some ⟨w.heap.size, 4, none⟩), .slice (some ad) l.length c, .int .i64 l.length, .tuple #[.agg #[.int .i64 Z.f0, .int .i64 Z.f1], .int .i64 ez], .agg #[.int .i64 Z.f0, .int .i64 Z.f1], .int .i64 ez, .pointer (some ⟨w.heap.size, 2, none⟩), .pointer (some ⟨w.heap.size, 2, none⟩), .int .i64 fi.f0, .int .i64 L0, .pointer (some ⟨w.heap.size, 2, none⟩), .pointer (some ⟨w.heap.size, 3, none⟩), .int .i64 fi.f1, .int .i64 H0, .int .i64 i, .slice (some ⟨gp, 0, none⟩) np cp, .int .i64 np, .bool true, u208, u209, .int .i64 ga, .slice (some ⟨gp, 0, none⟩) np cp, .int .i64 i, .pointer (some ⟨gp, i * 9, none⟩), .pointer (some ⟨gp, i * 9, none⟩), .pointer (some ⟨gp, i * 9, none⟩), .int .i64 pp.f0.f0, .int .i64 ga2, .int .i64 gb, .slice (some ⟨gp, 0, none⟩) np cp, .int .i64 i, .pointer (some ⟨gp, i * 9, none⟩), .pointer (some ⟨gp, i * 9, none⟩), .pointer (some ⟨gp, i * 9 + 1, none⟩), .int .i64 pp.f0.f1, .int .i64 gb2, undef, undef, undef, undef, undef, undef, undef, undef, undef, undef, undef, undef, undef, undef, undef, undef, undef, undef, undef, undef, undef, undef, undef, undef, undef, undef, undef, undef, undef, undef, undef, undef, undef, undef, undef, undef, undef, undef, undef, undef, undef, undef, undef, undef, undef, undef, undef, undef, undef, undef, undef], defers := [] }
            mixed (by kernel_rfl) rfl (Ahead.of4 29 31 210 226 rfl rfl (by kernel_rfl) rfl rfl rfl) rfl rfl rfl ?_ (AllFlow2.ops rfl ?_) rfl ?_
          · exact ⟨r0, r1, (Below.refl _ _).drew⟩
          · refine ⟨?_, ?_, ?_, ?_, ?_, ?_, ?_, ?_, ?_, ?_, ?_, ?_, ?_, ?_, ?_, ?_, ?_, ?_, trivial⟩
            · exact .val 210 _ rfl rfl fun V ⟨x0, x1, hB_⟩ => by go_simp
            · exact .val 211 _ rfl rfl fun V ⟨x0, x1, hB_⟩ => by go_simp
            · exact .val 212 _ rfl rfl fun V ⟨x0, x1, hB_⟩ => by go_simp
            · exact .val 213 _ rfl rfl fun V ⟨x0, x1, hB_⟩ => by go_simp <;> exact fun hh => absurd hh (by omega)
            · exact .val 214 _ rfl rfl fun V ⟨x0, x1, hB_⟩ => by go_simp
            · exact .val 215 _ rfl rfl fun V ⟨x0, x1, hB_⟩ => by go_simp
            · exact .val 216 _ rfl rfl fun V ⟨x0, x1, hB_⟩ => by go_simp
            · exact .val 217 _ rfl rfl fun V ⟨x0, x1, hB_⟩ => by go_simp <;> exact (wrap_i _).trans hga2
            · exact .val 218 _ rfl rfl fun V ⟨x0, x1, hB_⟩ => by go_simp
            · exact .val 219 _ rfl rfl fun V ⟨x0, x1, hB_⟩ => by go_simp
            · exact .val 220 _ rfl rfl fun V ⟨x0, x1, hB_⟩ => by go_simp
            · exact .val 221 _ rfl rfl fun V ⟨x0, x1, hB_⟩ => by go_simp <;> exact fun hh => absurd hh (by omega)
            · exact .val 222 _ rfl rfl fun V ⟨x0, x1, hB_⟩ => by go_simp
            · exact .val 223 _ rfl rfl fun V ⟨x0, x1, hB_⟩ => by go_simp
            · exact .val 224 _ rfl rfl fun V ⟨x0, x1, hB_⟩ => by go_simp
            · exact .val 225 _ rfl rfl fun V ⟨x0, x1, hB_⟩ => by go_simp <;> exact (wrap_i _).trans hgb2
            · exact .val 29 _ rfl rfl fun V ⟨x0, x1, hB_⟩ => by go_simp
            · exact .val 30 _ rfl rfl fun V ⟨x0, x1, hB_⟩ => by go_simp
          rintro V ⟨x0, x1, hB_⟩
          have HXB2 := hid (HXB.out.trans (hB_.mono HXB.out.size))
          clear x0 x1 hB_ HXB
          go_wp2
          go_roundw
          case rel => exact ⟨i + 1, by have := HLT.out; omega, by have := HLT.out; have := HPB.out; go_num, _, _, rfl, rfl, hid ⟨HXB2.out, by
            show ga2 = L0 + (gS (fun p => p.f0.f0) (keptOf l).ps i + ((keptOf l).ps.getD i z52).f0.f0)
            have h1 := HGAE.out
            have h2 := HE.out
            rw [h2.2.2]
            omega, by
            show gb2 = H0 + (gS (fun p => p.f0.f1) (keptOf l).ps i + ((keptOf l).ps.getD i z52).f0.f1)
            have h1 := HGBE.out
            have h2 := HE.out
            rw [h2.2.2]
            omega⟩⟩
          case measure => have := HLT.out; simp [intOf]; omega
        · obtain rfl : np = i := by omega
          have hil : ¬ (np : Int) < (np : Int) := by omega
          clear hlt hi
          have HB28' := hid (heap_grow HB28.out HXB.out)
          have HO1 := hid (HO.out.grow HXB.out)
          clear HB28 HO HRw HRP HB0
          have HB28 := HB28'
          have HO := HO1
          clear HB28' HO1
          have HGA := hid (show 0 ≤ ga ∧ ga ≤ 20000000000000 by have := HGAE.out; have := HG.out; have := HLB0.out; omega)
          have HGB := hid (show 0 ≤ gb ∧ gb ≤ 20000000000000 by have := HGBE.out; have := HG.out; have := HLB0.out; omega)
          clear HG HXB hnb
          go_upto_region 33 with fail
          have HB0 := hid (Below.refl Wk2.heap.size Wk2)
          go_wp2_with fail
          go_loopw [29, 30, 32] (fun v29 v30 v32 Z => ∃ i : Nat, i ≤ l.length ∧ v32 = .int .i64 i ∧ ∃ la lb : Int, v29 = .int .i64 la ∧ v30 = .int .i64 lb ∧ Hid (Below Wk2.heap.size Wk2 Z ∧ la = ga - pS (fun x => 1000 * x.f4.f1) l i ∧ lb = gb - pS (fun x => 1000 * x.f4.f0) l i)) (fun _ _ v32 _ => l.length + 1 - (intOf v32).toNat)
          case atStart => exact ⟨0, by omega, rfl, _, _, rfl, rfl, hid ⟨HB0.out, by show ga = ga - 0; omega, by show gb = gb - 0; omega⟩⟩
          case round =>
            obtain ⟨i, hi, rfl, la, lb, rfl, rfl, HX⟩ := hrel
            rename World => Wk3
            have HO1 := hid (HO.out.grow HX.out.1)
            have HLA := hid HX.out.2.1
            have HLB := hid HX.out.2.2
            have HXB := hid HX.out.1
            clear HX
            have y4 := blkCell HO1.out.bx 4
            simp at y4
            have hl2 := HL.out
            by_cases hlt : i < l.length
            · have hil : (i : Int) < (l.length : Int) := by omega
              obtain ⟨x, hx⟩ : ∃ x, l[i] = x := ⟨_, rfl⟩
              have hcc := at_T36 (Kd.C_below HR.out HO1.out.be) i (by omega) (by omega)
              rw [rdP hlt, hx] at hcc
              simp only [Int.toNat_natCast] at hcc
              obtain ⟨ad', had, k0, k1, k2, k3, k4, k5, k6, k7, k8, k9, k10⟩ := hcc
              injection had with had
              subst had
              have hki := kilos_all HV.out hlt
              rw [hx] at hki
              have HKI := hid hki
              have HXX := hid (show l.getD i z36 = x by rw [← hx]; simp [List.getD, hlt])
              have HLT := hid hlt
              clear hx k0 k2 k3 k6 k7 k8 k9 k10 hki
              by_cases h3 : x.f1 = 3
              rotate_left
              · have b3 : (x.f1 == 3) = false := by simp [h3]
                have H3 := hid h3
                clear h3
                go_wp2
                go_roundw
                case rel => exact ⟨i + 1, by omega, by have := HLT.out; have := HL.out; go_num, _, _, rfl, rfl, hid ⟨HXB.out, by show la = ga - (pS (fun x => 1000 * x.f4.f1) l i + (if (l.getD i z36).f1 = 3 then 1000 * (l.getD i z36).f4.f1 else 0)); rw [HXX.out, if_neg H3.out]; have := HLA.out; omega, by show lb = gb - (pS (fun x => 1000 * x.f4.f0) l i + (if (l.getD i z36).f1 = 3 then 1000 * (l.getD i z36).f4.f0 else 0)); rw [HXX.out, if_neg H3.out]; have := HLB.out; omega⟩⟩
                case measure => simp [intOf]; omega
              · have b3 : (x.f1 == 3) = true := by simp [h3]
                have H3 := hid h3
                clear h3
                have hpa := pS_in (g := fun x => 1000 * x.f4.f1) (l := l) (M := 1000000000) (by omega) (fun j _ => pull_hi HV.out j) i
                have hpb := pS_in (g := fun x => 1000 * x.f4.f0) (l := l) (M := 1000000000) (by omega) (fun j _ => pull_lo HV.out j) i
                obtain ⟨m1, hm1⟩ : ∃ q, wrap64 (1000 * x.f4.f1) = q := ⟨_, rfl⟩
                obtain ⟨m0, hm0⟩ : ∃ q, wrap64 (1000 * x.f4.f0) = q := ⟨_, rfl⟩
                have e1 : m1 = 1000 * x.f4.f1 := by rw [← hm1]; have := HKI.out; exact wrap64_id (by omega) (by omega)
                have e0 : m0 = 1000 * x.f4.f0 := by rw [← hm0]; have := HKI.out; exact wrap64_id (by omega) (by omega)
                obtain ⟨la2, hla2⟩ : ∃ q, wrap64 (la - m1) = q := ⟨_, rfl⟩
                obtain ⟨lb2, hlb2⟩ : ∃ q, wrap64 (lb - m0) = q := ⟨_, rfl⟩
                have e2 : la2 = la - m1 := by rw [← hla2]; have := HKI.out; have := HLA.out; have := HGA.out; clear hla2 hlb2 hm1 hm0; exact wrap64_id (by omega) (by omega)
                have e3 : lb2 = lb - m0 := by rw [← hlb2]; have := HKI.out; have := HLB.out; have := HGB.out; clear hla2 hlb2 hm1 hm0; exact wrap64_id (by omega) (by omega)
                have HE := hid (And.intro e0 (And.intro e1 (And.intro e2 e3)))
                clear e0 e1 e2 e3 hpa hpb
                go_upto_region 37 with fail
                have r0 := y4
                have r1 := k4
                have r2 := k5
                clear k1 k4 k5 y4 b3
                clear HB0 HB28 HO
                obtain ⟨Wc, hWc⟩ : ∃ W, W = Wk3 := ⟨_, rfl⟩
                rw [← hWc] at r0 r1 r2 HXB HO1 ⊢
                clear hWc
                refine wp_flow12 [[], [], [1], [], [2, 1, 3], [4, 2, 1, 3], [5, 4, 2, 1, 3], [6, 5, 4, 2, 1, 3], [7, 6, 5, 4, 2, 1, 3], [0, 8, 7, 6, 5, 4, 2, 1, 3], [], [], [11], [], [12, 11, 13], [14, 12, 11, 13], [15, 14, 12, 11, 13], [16, 15, 14, 12, 11, 13], [17, 16, 15, 14, 12, 11, 13], [10, 18, 17, 16, 15, 14, 12, 11, 13], [9, 0, 8, 7, 6, 5, 4, 2, 1, 3], [19, 10, 18, 17, 16, 15, 14, 12, 11, 13, 20, 9, 0, 8, 7, 6, 5, 4, 2, 1, 3]] 22 29 31
                  (fun V => V.cell? ⟨w.heap.size, 4, none⟩ = some (.slice (some ad) l.length c) ∧ V.cell? ⟨(ad.add (i * 11)).block, (ad.add (i * 11)).off + 4, none⟩ = some (.int .i64 x.f4.f0) ∧ V.cell? ⟨(ad.add (i * 11)).block, (ad.add (i * 11)).off + 5, none⟩ = some (.int .i64 x.f4.f1) ∧ Below Wc.heap.size Wc V)
                  { tmps := #[.agg #[.int .i64 ho.f0, .int .i64 ho.f1, .int .i64 fi.f0, .int .i64 fi.f1, .slice (some ad) l.length c], .int .i64 which, .int .i64 account, .int .i64 posts, .pointer (some ⟨w.heap.size, 0, none⟩), undef, undef, undef, u8, .int .i64 nn, .pointer (some ⟨B10, 0, none⟩), .pointer (some ⟨g, nn * 11 + 4, none⟩), .slice Ab nh cb, .int .i64 0, .int .i64 ia, .int .u8 ka, .int .i64 kh, .int .i64 pa, .pointer (some ⟨B18, 0, none⟩), .int .i64 ez, .pointer (some ⟨B20, 0, none⟩), .int .i64 ey, .slice (some ⟨gp, 0, none⟩) np cp, .int .i64 np, u24, u25, u26, u27, .pointer (some ⟨B28, 0, none⟩), .int .i64 la2, .int .i64 lb2, .int .i64 np, .int .i64 i, .agg #[.int .i64 ho.f0, .int .i64 ho.f1, .int .i64 fi.f0, .int .i64 fi.f1, .slice (some ad) l.length c], .bool false, .bool false, .pointer (some ⟨w.heap.size, 4, none⟩), .slice (some ad) l.length c, .int .i64 l.length, .bool false, .bool false, .bool false, .pointer (some ⟨w.heap.size, 4, none⟩), .slice (some ad) l.length c, .int .i64 l.length, .bool false, .bool false, .bool false, .agg #[.int .i64 ho.f0, .int .i64 ho.f1, .int .i64 fi.f0, .int .i64 fi.f1, .slice (some ad) l.length c], .int .i64 0, .bool false, .bool false, undef, .int .i64 which, .pointer (some ⟨w.heap.size, 4, none⟩), .slice (some ad) l.length c, .int .i64 l.length, .int .i64 (wrap64 (l.length - 1)), .int .i64 nn, .agg #[.int .i64 ho.f0, .int .i64 ho.f1, .int .i64 fi.f0, .int .i64 fi.f1, .slice (some ad) l.length c], .slice (some ⟨B4, 0, none⟩) 0 0, .pointer (some ⟨w.heap.size, 4, none⟩), .slice (some ad) l.length c, .slice (some ⟨g, 0, none⟩) l.length cap, .pointer (some ⟨B10, 4, none⟩), .pointer (some ⟨B10, 4, none⟩), .slice (some ⟨g, 0, none⟩) l.length cap, .int .i64 nn, .pointer (some ⟨g, nn * 11, none⟩), .pointer (some ⟨g, nn * 11 + 4, none⟩), u70, u71, u72, u73, u74, u75, u76, u77, u78, u79, u80, u81, u82, u83, u84, u85, .tuple #[.slice Ab nh cb, .int .i64 0], .agg #[.int .i64 ho.f0, .int .i64 ho.f1, .int .i64 fi.f0, .int .i64 fi.f1, .slice (some ad) l.length c], .tuple #[.slice Ab nh cb, .int .i64 0], .slice Ab nh cb, .int .i64 0, .int .i64 account, .slice Ab nh cb, .int .i64 nh, .int .i64 (wrap64 (1 + nh)), .int .i64 ia, .int .i64 ia, .int .i64 ka, .int .u8 ka, .int .i64 ia, .int .i64 (wrap64 (ia - 2)), .int .i64 kh, .int .i64 posts, .pointer (some ⟨w.heap.size, 4, none⟩), .slice (some ad) l.length c, .int .i64 l.length, .int .i64 pa, .tuple #[.agg #[.int .i64 X.f0, .int .i64 X.f1], .int .i64 ex], .agg #[.int .i64 ho.f0, .int .i64 ho.f1, .int .i64 fi.f0, .int .i64 fi.f1, .slice (some ad) l.length c], .int .u8 ka, .int .i64 kh, .int .i64 pa, .tuple #[.agg #[.int .i64 X.f0, .int .i64 X.f1], .int .i64 ex], .agg #[.int .i64 X.f0, .int .i64 X.f1], .int .i64 ex, .tuple #[.agg #[.int .i64 Y.f0, .int .i64 Y.f1], .int .i64 ey], .agg #[.int .i64 ho.f0, .int .i64 ho.f1, .int .i64 fi.f0, .int .i64 fi.f1, .slice (some ⟨g, 0, none⟩) l.length cap], .int .u8 ka, .int .i64 kh, .int .i64 pa, .tuple #[.agg #[.int .i64 Y.f0, .int .i64 Y.f1], .int .i64 ey], .agg #[.int .i64 Y.f0, .int .i64 Y.f1], .int .i64 ey, u123, u124, u125, u126, u127, u128, u129, u130, u131, u132, u133, u134, u135, u136, u137, u138, u139, u140, u141, .bool false, .tuple #[.slice (some ⟨gp, 0, none⟩) np cp, .int .i64 0], .agg #[.int .i64 ho.f0, .int .i64 ho.f1, .int .i64 fi.f0, .int .i64 fi.f1, .slice (some ad) l.length c], .tuple #[.slice (some ⟨gp, 0, none⟩) np cp, .int .i64 0], .slice (some ⟨gp, 0, none⟩) np cp, .int .i64 0, .int .i64 0, .bool false, .int .i64 np, .slice (some ⟨gp, 0, none⟩) np cp, .int .i64 np, .bool false, u154, u155, u156, u157, u158, u159, u160, u161, u162, u163, u164, u165, u166, u167, u168, u169, u170, u171, u172, u173, u174, u175, u176, u177, u178, u179, u180, u181, u182, u183, u184, u185, u186, u187, .tuple #[.agg #[.int .i64 Z.f0, .int .i64 Z.f1], .int .i64 ez], .agg #[.int .i64 ho.f0, .int .i64 ho.f1, .int .i64 fi.f0, .int .i64 fi.f1, .slice (some ad) l.length c], .pointer (some ⟨w.heap.size, 4, none⟩), .slice (some ad) l.length c, .int .i64 l.length, .tuple #[.agg #[.int .i64 Z.f0, .int .i64 Z.f1], .int .i64 ez], .agg #[.int .i64 Z.f0, .int .i64 Z.f1], .int .i64 ez, .pointer (some ⟨w.heap.size, 2, none⟩), .pointer (some ⟨w.heap.size, 2, none⟩), .int .i64 fi.f0, .int .i64 L0, .pointer (some ⟨w.heap.size, 2, none⟩), .pointer (some ⟨w.heap.size, 3, none⟩), .int .i64 fi.f1, .int .i64 H0, .int .i64 np, .slice (some ⟨gp, 0, none⟩) np cp, .int .i64 np, .bool false, u208, u209, u210, u211, u212, u213, u214, u215, u216, u217, u218, u219, u220, u221, u222, u223, u224, u225, .int .i64 i, .pointer (some ⟨w.heap.size, 4, none⟩), .slice (some ad) l.length c, .int .i64 l.length, .bool true, u231, u232, .pointer (some ⟨w.heap.size, 4, none⟩), .slice (some ad) l.length c, .int .i64 i, .pointer (some (ad.add (i * 11))), .pointer (some ⟨(ad.add (i * 11)).block, (ad.add (i * 11)).off + 1, none⟩), .int .u8 x.f1, .bool true, .int .i64 la, .pointer (some ⟨w.heap.size, 4, none⟩), .slice (some ad) l.length c, .int .i64 i, .pointer (some (ad.add (i * 11))), .pointer (some ⟨(ad.add (i * 11)).block, (ad.add (i * 11)).off + 4, none⟩), .pointer (some ⟨(ad.add (i * 11)).block, (ad.add (i * 11)).off + 5, none⟩), .int .i64 x.f4.f1, .int .i64 m1, .int .i64 la2, .int .i64 lb, .pointer (some ⟨w.heap.size, 4, none⟩), .slice (some ad) l.length c, .int .i64 i, .pointer (some (ad.add (i * 11))), .pointer (some ⟨(ad.add (i * 11)).block, (ad.add (i * 11)).off + 4, none⟩), .pointer (some ⟨(ad.add (i * 11)).block, (ad.add (i * 11)).off + 4, none⟩), .int .i64 x.f4.f0, .int .i64 m0, .int .i64 lb2, undef, undef, undef, undef, undef, undef, undef, undef, undef, undef, undef, undef, undef, undef, undef, undef, undef], defers := [] }
                  { tmps := #[.agg #[.int .i64 ho.f0, .int .i64 ho.f1, .int .i64 fi.f0, .int .i64 fi.f1, .slice (some ad) l.length c], .int .i64 which, .int .i64 account, .int .i64 posts, .pointer (some ⟨w.heap.size, 0, none⟩), undef, undef, undef, u8, .int .i64 nn, .pointer (some ⟨B10, 0, none⟩), .pointer (some ⟨g, nn * 11 + 4, none⟩), .slice Ab nh cb, .int .i64 0, .int .i64 ia, .int .u8 ka, .int .i64 kh, .int .i64 pa, .pointer (some ⟨B18, 0, none⟩), .int .i64 ez, .pointer (some ⟨B20, 0, none⟩), .int .i64 ey, .slice (some ⟨gp, 0, none⟩) np cp, .int .i64 np, u24, u25, u26, u27, .pointer (some ⟨B28, 0, none⟩), .int .i64 la, .int .i64 lb, .int .i64 np, .int .i64 i, .agg #[.int .i64 ho.f0, .int .i64 ho.f1, .int .i64 fi.f0, .int .i64 fi.f1, .slice (some ad) l.length c], .bool false, .bool false, .pointer (some ⟨w.heap.size, 4, none⟩), .slice (some ad) l.length c, .int .i64 l.length, .bool false, .bool false, .bool false, .pointer (some ⟨w.heap.size, 4, none⟩), .slice (some ad) l.length c, .int .i64 l.length, .bool false, .bool false, .bool false, .agg #[.int .i64 ho.f0, .int .i64 ho.f1, .int .i64 fi.f0, .int .i64 fi.f1, .slice (some ad) l.length c], .int .i64 0, .bool false, .bool false, undef, .int .i64 which, .pointer (some ⟨w.heap.size, 4, none⟩), .slice (some ad) l.length c, .int .i64 l.length, .int .i64 (wrap64 (l.length - 1)), .int .i64 nn, .agg #[.int .i64 ho.f0, .int .i64 ho.f1, .int .i64 fi.f0, .int .i64 fi.f1, .slice (some ad) l.length c], .slice (some ⟨B4, 0, none⟩) 0 0, .pointer (some ⟨w.heap.size, 4, none⟩), .slice (some ad) l.length c, .slice (some ⟨g, 0, none⟩) l.length cap, .pointer (some ⟨B10, 4, none⟩), .pointer (some ⟨B10, 4, none⟩), .slice (some ⟨g, 0, none⟩) l.length cap, .int .i64 nn, .pointer (some ⟨g, nn * 11, none⟩), .pointer (some ⟨g, nn * 11 + 4, none⟩), u70, u71, u72, u73, u74, u75, u76, u77, u78, u79, u80, u81, u82, u83, u84, u85, .tuple #[.slice Ab nh cb, .int .i64 0], .agg #[.int .i64 ho.f0, .int .i64 ho.f1, .int .i64 fi.f0, .int .i64 fi.f1, .slice (some ad) l.length c], .tuple #[.slice Ab nh cb, .int .i64 0], .slice Ab nh cb, .int .i64 0, .int .i64 account, .slice Ab nh cb, .int .i64 nh, .int .i64 (wrap64 (1 + nh)), .int .i64 ia, .int .i64 ia, .int .i64 ka, .int .u8 ka, .int .i64 ia, .int .i64 (wrap64 (ia - 2)), .int .i64 kh, .int .i64 posts, .pointer (some ⟨w.heap.size, 4, none⟩), .slice (some ad) l.length c, .int .i64 l.length, .int .i64 pa, .tuple #[.agg #[.int .i64 X.f0, .int .i64 X.f1], .int .i64 ex], .agg #[.int .i64 ho.f0, .int .i64 ho.f1, .int .i64 fi.f0, .int .i64 fi.f1, .slice (some ad) l.length c], .int .u8 ka, .int .i64 kh, .int .i64 pa, .tuple #[.agg #[.int .i64 X.f0, .int .i64 X.f1], .int .i64 ex], .agg #[.int .i64 X.f0, .int .i64 X.f1], .int .i64 ex, .tuple #[.agg #[.int .i64 Y.f0, .int .i64 Y.f1], .int .i64 ey], .agg #[.int .i64 ho.f0, .int .i64 ho.f1, .int .i64 fi.f0, .int .i64 fi.f1, .slice (some ⟨g, 0, none⟩) l.length cap], .int .u8 ka, .int .i64 kh, .int .i64 pa, .tuple #[.agg #[.int .i64 Y.f0, .int .i64 Y.f1], .int .i64 ey], .agg #[.int .i64 Y.f0, .int .i64 Y.f1], .int .i64 ey, u123, u124, u125, u126, u127, u128, u129, u130, u131, u132, u133, u134, u135, u136, u137, u138, u139, u140, u141, .bool false, .tuple #[.slice (some ⟨gp, 0, none⟩) np cp, .int .i64 0], .agg #[.int .i64 ho.f0, .int .i64 ho.f1, .int .i64 fi.f0, .int .i64 fi.f1, .slice (some ad) l.length c], .tuple #[.slice (some ⟨gp, 0, none⟩) np cp, .int .i64 0], .slice (some ⟨gp, 0, none⟩) np cp, .int .i64 0, .int .i64 0, .bool false, .int .i64 np, .slice (some ⟨gp, 0, none⟩) np cp, .int .i64 np, .bool false, u154, u155, u156, u157, u158, u159, u160, u161, u162, u163, u164, u165, u166, u167, u168, u169, u170, u171, u172, u173, u174, u175, u176, u177, u178, u179, u180, u181, u182, u183, u184, u185, u186, u187, .tuple #[.agg #[.int .i64 Z.f0, .int .i64 Z.f1], .int .i64 ez], .agg #[.int .i64 ho.f0, .int .i64 ho.f1, .int .i64 fi.f0, .int .i64 fi.f1, .slice (some ad) l.length c], .pointer (some ⟨w.heap.size, 4, none⟩), .slice (some ad) l.length c, .int .i64 l.length, .tuple #[.agg #[.int .i64 Z.f0, .int .i64 Z.f1], .int .i64 ez], .agg #[.int .i64 Z.f0, .int .i64 Z.f1], .int .i64 ez, .pointer (some ⟨w.heap.size, 2, none⟩), .pointer (some ⟨w.heap.size, 2, none⟩), .int .i64 fi.f0, .int .i64 L0, .pointer (some ⟨w.heap.size, 2, none⟩), .pointer (some ⟨w.heap.size, 3, none⟩), .int .i64 fi.f1, .int .i64 H0, .int .i64 np, .slice (some ⟨gp, 0, none⟩) np cp, .int .i64 np, .bool false, u208, u209, u210, u211, u212, u213, u214, u215, u216, u217, u218, u219, u220, u221, u222, u223, u224, u225, .int .i64 i, .pointer (some ⟨w.heap.size, 4, none⟩), .slice (some ad) l.length c, .int .i64 l.length, .bool true, u231, u232, .pointer (some ⟨w.heap.size, 4, none⟩), .slice (some ad) l.length c, .int .i64 i, .pointer (some (ad.add (i * 11))), .pointer (some ⟨(ad.add (i * 11)).block, (ad.add (i * 11)).off + 1, none⟩), .int .u8 x.f1, .bool true, .int .i64 la, .pointer (some ⟨w.heap.size, 4, none⟩), .slice (some ad) l.length c, .int .i64 i, .pointer (some (ad.add (i * 11))), .pointer (some ⟨(ad.add (i * 11)).block, (ad.add (i * 11)).off + 4, none⟩), .pointer (some ⟨(ad.add (i * 11)).block, (ad.add (i * 11)).off + 5, none⟩), .int .i64 x.f4.f1, .int .i64 m1, .int .i64 la2, .int .i64 lb, .pointer (some ⟨w.heap.size, 4, none⟩), .slice (some ad) l.length c, .int .i64 i, .pointer (some (ad.add (i * 11))), .pointer (some ⟨(ad.add (i * 11)).block, (ad.add (i * 11)).off + 4, none⟩), .pointer (some ⟨(ad.add (i * 11)).block, (ad.add (i * 11)).off + 4, none⟩), .int .i64 x.f4.f0, .int .i64 m0, .int .i64 lb2, undef, undef, undef, undef, undef, undef, undef, undef, undef, undef, undef, undef, undef, undef, undef, undef, undef], defers := [] }
                  mixed (by kernel_rfl) rfl (Ahead.of4 29 31 240 260 rfl rfl (by kernel_rfl) rfl rfl rfl) rfl rfl rfl ?_ (AllFlow2.ops rfl ?_) rfl ?_
                · exact ⟨r0, r1, r2, (Below.refl _ _).drew⟩
                · refine ⟨?_, ?_, ?_, ?_, ?_, ?_, ?_, ?_, ?_, ?_, ?_, ?_, ?_, ?_, ?_, ?_, ?_, ?_, ?_, ?_, ?_, ?_, trivial⟩
                  · exact .val 240 _ rfl rfl fun V ⟨x0, x1, x2, hB_⟩ => by go_simp
                  · exact .val 241 _ rfl rfl fun V ⟨x0, x1, x2, hB_⟩ => by go_simp
                  · exact .val 242 _ rfl rfl fun V ⟨x0, x1, x2, hB_⟩ => by go_simp
                  · exact .val 243 _ rfl rfl fun V ⟨x0, x1, x2, hB_⟩ => by go_simp
                  · exact .val 244 _ rfl rfl fun V ⟨x0, x1, x2, hB_⟩ => by go_simp <;> exact fun hh => absurd hh (by omega)
                  · exact .val 245 _ rfl rfl fun V ⟨x0, x1, x2, hB_⟩ => by go_simp
                  · exact .val 246 _ rfl rfl fun V ⟨x0, x1, x2, hB_⟩ => by go_simp
                  · exact .val 247 _ rfl rfl fun V ⟨x0, x1, x2, hB_⟩ => by go_simp
                  · exact .val 248 _ rfl rfl fun V ⟨x0, x1, x2, hB_⟩ => by go_simp <;> exact (wrap_i _).trans hm1
                  · exact .val 249 _ rfl rfl fun V ⟨x0, x1, x2, hB_⟩ => by go_simp <;> exact (wrap_i _).trans hla2
                  · exact .val 250 _ rfl rfl fun V ⟨x0, x1, x2, hB_⟩ => by go_simp
                  · exact .val 251 _ rfl rfl fun V ⟨x0, x1, x2, hB_⟩ => by go_simp
                  · exact .val 252 _ rfl rfl fun V ⟨x0, x1, x2, hB_⟩ => by go_simp
                  · exact .val 253 _ rfl rfl fun V ⟨x0, x1, x2, hB_⟩ => by go_simp
                  · exact .val 254 _ rfl rfl fun V ⟨x0, x1, x2, hB_⟩ => by go_simp <;> exact fun hh => absurd hh (by omega)
                  · exact .val 255 _ rfl rfl fun V ⟨x0, x1, x2, hB_⟩ => by go_simp
                  · exact .val 256 _ rfl rfl fun V ⟨x0, x1, x2, hB_⟩ => by go_simp
                  · exact .val 257 _ rfl rfl fun V ⟨x0, x1, x2, hB_⟩ => by go_simp
                  · exact .val 258 _ rfl rfl fun V ⟨x0, x1, x2, hB_⟩ => by go_simp <;> exact (wrap_i _).trans hm0
                  · exact .val 259 _ rfl rfl fun V ⟨x0, x1, x2, hB_⟩ => by go_simp <;> exact (wrap_i _).trans hlb2
                  · exact .val 29 _ rfl rfl fun V ⟨x0, x1, x2, hB_⟩ => by go_simp
                  · exact .val 30 _ rfl rfl fun V ⟨x0, x1, x2, hB_⟩ => by go_simp
                rintro V ⟨x0, x1, x2, hB_⟩
                have HXB2 := hid (HXB.out.trans (hB_.mono HXB.out.size))
                clear x0 x1 x2 hB_ HXB HO1
                go_wp2
                go_roundw
                case rel => exact ⟨i + 1, by have := HLT.out; omega, by have := HLT.out; have := HL.out; go_num, _, _, rfl, rfl, hid ⟨HXB2.out, by
                  show la2 = ga - (pS (fun x => 1000 * x.f4.f1) l i + (if (l.getD i z36).f1 = 3 then 1000 * (l.getD i z36).f4.f1 else 0))
                  rw [HXX.out, if_pos H3.out]
                  have := HLA.out
                  have := HE.out
                  omega, by
                  show lb2 = gb - (pS (fun x => 1000 * x.f4.f0) l i + (if (l.getD i z36).f1 = 3 then 1000 * (l.getD i z36).f4.f0 else 0))
                  rw [HXX.out, if_pos H3.out]
                  have := HLB.out
                  have := HE.out
                  omega⟩⟩
                case measure => have := HLT.out; simp [intOf]; omega
            · obtain rfl : l.length = i := by omega
              have hil : ¬ (l.length : Int) < (l.length : Int) := by omega
              clear hlt hi
              have HB28' := hid (heap_grow HB28.out HXB.out)
              clear HB28 HO
              have HB28 := HB28'
              have HO := HO1
              clear HB28' HO1
              have HLA' := hid (show la = ga - pS (fun x => 1000 * x.f4.f1) l l.length from HLA.out)
              have HLB' := hid (show lb = gb - pS (fun x => 1000 * x.f4.f0) l l.length from HLB.out)
              have HL0' := HL0
              clear HLA HLB
              have HLA := hid (show la = L0 + gS (fun p => p.f0.f0) (keptOf l).ps np - pS (fun x => 1000 * x.f4.f1) l l.length by rw [HLA'.out, HGAE.out])
              have HLB := hid (show lb = H0 + gS (fun p => p.f0.f1) (keptOf l).ps np - pS (fun x => 1000 * x.f4.f0) l l.length by rw [HLB'.out, HGBE.out])
              clear HLA' HLB' HL0'
              cases hez : decide (ez = 0) with
              | false =>
                have hne : ez ≠ 0 := of_decide_eq_false hez
                have b0 : (ez != 0) = true := by simpa using hne
                clear hez hne
                go_wp2_with fail
                refine (sums_any _).mono ?_
                rintro e WS ⟨rfl, hb⟩
                have H3 := hid (HO.out.be.trans (hb.mono HO.out.be.size))
                clear hb
                go_wp2
                go_ret
                exact ⟨rfl, H3.out⟩
              | true =>
                have he0 : ez = 0 := of_decide_eq_true hez
                subst he0
                clear hez
                have hfu := furn_in HV.out (by rw [HZ.out])
                rw [HZ.out, HNP.out] at hfu
                simp only at hfu
                have b0 : decide (la ≤ Z.f0) = true := decide_eq_true (by have := HLA.out; have := HL0.out; omega)
                have b1 : decide (Z.f1 ≤ lb) = true := decide_eq_true (by have := HLB.out; have := HH0.out; omega)
                have x0 := blkCell HB28.out 0
                have x1 := blkCell HB28.out 1
                simp at x0 x1
                clear hfu
                go_wp2_with fail
                refine (sums_any _).mono ?_
                rintro e WS ⟨rfl, hb⟩
                have H3 := hid (HO.out.be.trans (hb.mono HO.out.be.size))
                clear hb
                go_wp2
                go_ret
                exact ⟨rfl, H3.out⟩
end Go.Proofs.Ytbmkbokkmmdjdaa
end
