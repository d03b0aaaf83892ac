-- D6 (wip/pack9.py)
import Derived.Test.YtbmkbokkmmdjdaaV25
section
namespace Go.Proofs.Ytbmkbokkmmdjdaa
open Go.RowKit Go.Proofs.YtbmkbokkmmdjdaaW.PrintWords Go.Proofs.YtbmkbokkmmdjdaaW.PrintLast Go.Proofs.YtbmkbokkmmdjdaaW.PrintMore
open Q Go.Shelf
attribute [local go_sem] Oper.semAt_some wide_depth wide_fn
set_option linter.unusedVariables false
set_option linter.unusedSimpArgs false

theorem late_same {l : List S36} {i : Nat} (hi : i < l.length) : lateS l[i] (l.take i) = lateB l i := by
  unfold lateS lateB
  have hln : (l.take i).length = i := by rw [List.length_take]; omega
  have hg : l.getD i z36 = l[i] := by simp [List.getD, hi]
  rw [hln, hg]
  by_cases h0 : 0 < i
  · congr 2
    have : (l.take i).getD (i - 1) z36 = l.getD (i - 1) z36 := by
      simp [List.getD, List.getElem?_take, show i - 1 < i by omega]
    rw [this]
  · rw [decide_eq_false h0]; rfl
theorem bare_same (x : S36) (hk : 1 ≤ x.f1 ∧ x.f1 ≤ 8) : neB (bareOf x) x = !(eqP (bareR x) x) := by
  obtain ⟨x0, x1, x2, x3, ⟨x4, x5⟩, ⟨x6, x7⟩, ⟨x8, x9⟩, x10⟩ := x
  simp only at hk
  rcases (show x1 = 1 ∨ x1 = 2 ∨ x1 = 3 ∨ x1 = 4 ∨ x1 = 5 ∨ x1 = 6 ∨ x1 = 7 ∨ x1 = 8 by omega) with rfl | rfl | rfl | rfl | rfl | rfl | rfl | rfl
  all_goals
    rw [Bool.eq_iff_iff]
    unfold neB bareOf eqP bareR z23
    simp
  all_goals omega
theorem post_same {l : List S36} {i : Nat} (hi : i < l.length) : postErr l i = postS l[i] (l.take i) := by
  have hg : l.getD i z36 = l[i] := by simp [List.getD, hi]
  unfold postErr postS postRes
  rw [hg, late_same hi]
  generalize l[i] = x
  by_cases hk : 1 ≤ x.f1 ∧ x.f1 ≤ 8
  · rw [if_pos hk, show decide (1 ≤ x.f1 ∧ x.f1 ≤ 5) = decide (x.f1 ≤ 5) from by congr 1; simp; omega]
    by_cases hb : betw x.f0 0 1000000000 = true
    · rw [if_pos hb, if_pos (show (1 ≤ x.f1 ∧ x.f1 ≤ 8) ∧ betw x.f0 0 1000000000 = true from ⟨hk, hb⟩)]
      split
      · rfl
      · split
        · rfl
        · split
          · rw [bare_same x hk]
            cases eqP (bareR x) x <;> rfl
          · rfl
    · rw [if_neg hb, if_neg (show ¬ ((1 ≤ x.f1 ∧ x.f1 ≤ 8) ∧ betw x.f0 0 1000000000 = true) from fun h => hb h.2)]
  · rw [if_neg hk, if_neg (show ¬ ((1 ≤ x.f1 ∧ x.f1 ≤ 8) ∧ betw x.f0 0 1000000000 = true) from fun h => hk h.1)]
set_option maxRecDepth 100000 in
set_option maxHeartbeats 8000000 in
set_option pp.deepTerms true in
set_option pp.maxSteps 1000000 in
theorem checkR_any (ho fi : S23) (A : Option Addr) (c : Nat) (l : List S36) (w : World) (hr : Kd.C k36 w A l.length l) (hc : l.length ≤ c) :
    Calls Try.prog 8 #[.agg #[.int .i64 ho.f0, .int .i64 ho.f1, .int .i64 fi.f0, .int .i64 fi.f1, .slice A l.length c]] w (RetInt (bookErr ho fi l) w) := by
  have hu1 := Try.underlying26
  have hu2 := Try.underlying23
  have HB := Below.refl w.heap.size w
  have hbel := hid (HB.alloc (Nat.le_refl _) (.cells #[.int .i64 ho.f0, .int .i64 ho.f1, .int .i64 fi.f0, .int .i64 fi.f1, .slice A l.length c] 26))
  have e0 := World.alloc_heap_new w (.cells #[.int .i64 ho.f0, .int .i64 ho.f1, .int .i64 fi.f0, .int .i64 fi.f1, .slice A l.length c] 26)
  go_enter Try.func8, Try.ntmps8
  go_wp2_with fail
  generalize w.alloc (.cells #[.int .i64 ho.f0, .int .i64 ho.f1, .int .i64 fi.f0, .int .i64 fi.f1, .slice A l.length c] 26) = W1 at *
  refine (spanR_any ho _).mono ?_
  rintro e W2 ⟨rfl, hb⟩
  have e0 := heap_grow e0 hb
  have HB2 := hid (hbel.out.trans (hb.mono hbel.out.size))
  have y0 := blkCell e0 0
  have y1 := blkCell e0 1
  have y2 := blkCell e0 2
  have y3 := blkCell e0 3
  have y4 := blkCell e0 4
  simp at y0 y1 y2 y3 y4
  clear hb hbel HB
  cases h1 : spanOk ho 1000000 with
  | false =>
    have HV := hid (show bookErr ho fi l = 1 by unfold bookErr; rw [h1]; rfl)
    clear h1
    go_wp2
    go_ret
    exact ⟨ret_int HV.out.symm, HB2.out⟩
  | true =>
  have H1 := hid h1
  clear h1
  go_wp2_with fail
  refine (spanR_any fi _).mono ?_
  rintro e W3 ⟨rfl, hb⟩
  have e0 := heap_grow e0 hb
  have HB3 := hid (HB2.out.trans (hb.mono HB2.out.size))
  clear hb HB2 y0 y1 y2 y3 y4
  have y0 := blkCell e0 0
  have y1 := blkCell e0 1
  have y2 := blkCell e0 2
  have y3 := blkCell e0 3
  have y4 := blkCell e0 4
  simp at y0 y1 y2 y3 y4
  cases h2 : spanOk fi 1000000 with
  | false =>
    have HV := hid (show bookErr ho fi l = 1 by unfold bookErr; rw [H1.out, h2]; rfl)
    clear h2
    go_wp2
    go_ret
    exact ⟨ret_int HV.out.symm, HB3.out⟩
  | true =>
  have H2 := hid h2
  clear h2
  have hclash : (mn ho.f1 fi.f1 < mx ho.f0 fi.f0) ↔ (fi.f1 < ho.f0 ∨ ho.f1 < fi.f0) := by
    have g1 := H1.out
    have g2 := H2.out
    unfold spanOk betw at g1 g2
    simp at g1 g2
    unfold mn mx
    split <;> split <;> omega
  have HE0 := hid e0
  go_upto_region 3 with fail
  go_cut [29] from 15 to 28 (fun v29 wc => v29 = .bool (decide (mn ho.f1 fi.f1 < mx ho.f0 fi.f0)) ∧ Hid (Below W3.heap.size W3 wc))
  case first =>
    by_cases g1 : ho.f0 < fi.f0
    · have HX := hid (show mx ho.f0 fi.f0 = fi.f0 by unfold mx; rw [if_pos g1])
      by_cases g2 : fi.f1 < ho.f1
      · have HN := hid (show mn ho.f1 fi.f1 = fi.f1 by unfold mn; rw [if_pos g2])
        go_wp2
        go_meet
        case rel => exact ⟨by rw [HX.out, HN.out], hid (Below.refl _ _)⟩
      · have HN := hid (show mn ho.f1 fi.f1 = ho.f1 by unfold mn; rw [if_neg g2])
        go_wp2
        go_meet
        case rel => exact ⟨by rw [HX.out, HN.out], hid (Below.refl _ _)⟩
    · have HX := hid (show mx ho.f0 fi.f0 = ho.f0 by unfold mx; rw [if_neg g1])
      by_cases g2 : fi.f1 < ho.f1
      · have HN := hid (show mn ho.f1 fi.f1 = fi.f1 by unfold mn; rw [if_pos g2])
        go_wp2
        go_meet
        case rel => exact ⟨by rw [HX.out, HN.out], hid (Below.refl _ _)⟩
      · have HN := hid (show mn ho.f1 fi.f1 = ho.f1 by unfold mn; rw [if_neg g2])
        go_wp2
        go_meet
        case rel => exact ⟨by rw [HX.out, HN.out], hid (Below.refl _ _)⟩
  case rest =>
  obtain ⟨rfl, hbc⟩ := hcut
  have HB3' := hid (HB3.out.trans (hbc.out.mono HB3.out.size))
  have e0' := heap_grow HE0.out hbc.out
  clear HB3 HE0 e0 hbc y0 y1 y2 y3 y4
  have HB3 := hid HB3'.out
  have e0 := e0'
  clear HB3' e0'
  rename World => W3
  have y0 := blkCell e0 0
  have y1 := blkCell e0 1
  have y2 := blkCell e0 2
  have y3 := blkCell e0 3
  have y4 := blkCell e0 4
  simp at y0 y1 y2 y3 y4
  cases d4 : decide (mn ho.f1 fi.f1 < mx ho.f0 fi.f0) with
  | true =>
    have HV := hid (show bookErr ho fi l = 10 by unfold bookErr; rw [H1.out, H2.out, if_neg (by decide), if_pos (hclash.1 (of_decide_eq_true d4))])
    clear d4 hclash
    go_wp2
    go_ret
    exact ⟨ret_int HV.out.symm, HB3.out⟩
  | false =>
  have h4 := of_decide_eq_false d4
  have h3 : ¬ (fi.f1 < ho.f0 ∨ ho.f1 < fi.f0) := fun h => h4 (hclash.2 h)
  have d3 := d4
  clear hclash
  by_cases h5 : 256 < l.length
  · have HV := hid (show bookErr ho fi l = 3 by unfold bookErr; rw [H1.out, H2.out, if_neg (by decide), if_neg (by omega), if_pos h5])
    have d5 : decide ((256 : Int) < (l.length : Int)) = true := decide_eq_true (by omega)
    have d5' : decide (256 < l.length) = true := decide_eq_true h5
    clear h3 h4 h5
    go_wp2
    go_ret
    exact ⟨ret_int HV.out.symm, HB3.out⟩
  have d5 : decide ((256 : Int) < (l.length : Int)) = false := decide_eq_false (by omega)
  have d5' : decide (256 < l.length) = false := decide_eq_false h5
  have HV := hid (show bookErr ho fi l = firstErr l l.length 0 by unfold bookErr; rw [H1.out, H2.out, if_neg (by decide), if_neg (by omega), if_neg h5])
  have HL := hid (Nat.not_lt.1 h5)
  have HE := hid e0
  clear h3 h4 h5 e0
  go_wp2
  clear d3 d4 d5 d5' y0 y1 y2 y3 y4
  go_loopw [3] (fun v3 X => ∃ k : Nat, k ≤ l.length ∧ v3 = .int .i64 k ∧ Hid (Below W3.heap.size W3 X ∧ bookErr ho fi l = firstErr l (l.length - k) k)) (fun v3 _ => l.length - (intOf v3).toNat)
  case atStart => exact ⟨0, by omega, rfl, hid ⟨Below.refl _ _, HV.out⟩⟩
  case round =>
    obtain ⟨k, hk, rfl, HX⟩ := hrel
    have hll := HL.out
    rename World => Wk
    have HBk := hid (HB3.out.trans (HX.out.1.mono HB3.out.size))
    have HEk := hid (heap_grow HE.out HX.out.1)
    by_cases hlt : k < l.length
    · have z0 := blkCell HEk.out 0
      have z1 := blkCell HEk.out 1
      have z2 := blkCell HEk.out 2
      have z3 := blkCell HEk.out 3
      have z4 := blkCell HEk.out 4
      simp at z0 z1 z2 z3 z4
      obtain ⟨x, hx⟩ : ∃ x, l[k] = x := ⟨_, rfl⟩
      have hgd : l.getD k z36 = x := by rw [← hx]; simp [List.getD, hlt]
      have hcc := at_T36 (Kd.C_below hr HBk.out) k (by omega) (by omega)
      rw [rdP hlt, hx] at hcc
      simp only [Int.toNat_natCast] at hcc
      obtain ⟨ad, rfl, k0, k1, k2, k3, k4, k5, k6, k7, k8, k9, k10⟩ := hcc
      have hpo : ∀ V, Below Wk.heap.size Wk V → Calls Try.prog 23 #[.slice (some ad) k c, .agg #[.int .i64 x.f0, .int .u8 x.f1, .int .i64 x.f2, .int .i64 x.f3, .int .i64 x.f4.f0, .int .i64 x.f4.f1, .int .i64 x.f5.f0, .int .i64 x.f5.f1, .int .i64 x.f6.f0, .int .i64 x.f6.f1, .int .i64 x.f7]] V (RetInt (postS x (l.take k)) V) := fun V hV => by
        have hC := Kd.C_take (m := k) (Kd.C_below hr (HBk.out.trans (hV.mono HBk.out.size))) (by omega)
        have hln : (l.take k).length = k := by rw [List.length_take]; omega
        have := postR_any x (some ad) c (l.take k) V hC (by omega) (by omega)
        rwa [hln] at this
      have HPO := hid hpo
      have HPS := hid (show postErr l k = postS x (l.take k) by rw [← hx]; exact post_same hlt)
      clear hpo hx hgd
      go_upto_region 10 with fail
      refine wp_flow [[], [0], [], [1, 0, 2], [], [4], [], [5, 4, 6], [7, 5, 4, 6], [3, 1, 0, 2, 8, 7, 5, 4, 6], [9, 3, 1, 0, 2, 8, 7, 5, 4, 6]] 10
        (fun V => V.cell? ⟨w.heap.size, 0, none⟩ = some (.int .i64 ho.f0) ∧ V.cell? ⟨w.heap.size, 1, none⟩ = some (.int .i64 ho.f1) ∧ V.cell? ⟨w.heap.size, 2, none⟩ = some (.int .i64 fi.f0) ∧ V.cell? ⟨w.heap.size, 3, none⟩ = some (.int .i64 fi.f1) ∧ V.cell? ⟨w.heap.size, 4, none⟩ = some (.slice (some ad) l.length c) ∧ V.cell? (ad.add (k * 11)) = some (.int .i64 x.f0) ∧ V.cell? ⟨(ad.add (k * 11)).block, (ad.add (k * 11)).off + 1, none⟩ = some (.int .u8 x.f1) ∧ V.cell? ⟨(ad.add (k * 11)).block, (ad.add (k * 11)).off + 2, none⟩ = some (.int .i64 x.f2) ∧ V.cell? ⟨(ad.add (k * 11)).block, (ad.add (k * 11)).off + 3, none⟩ = some (.int .i64 x.f3) ∧ V.cell? ⟨(ad.add (k * 11)).block, (ad.add (k * 11)).off + 4, none⟩ = some (.int .i64 x.f4.f0) ∧ V.cell? ⟨(ad.add (k * 11)).block, (ad.add (k * 11)).off + 5, none⟩ = some (.int .i64 x.f4.f1) ∧ V.cell? ⟨(ad.add (k * 11)).block, (ad.add (k * 11)).off + 6, none⟩ = some (.int .i64 x.f5.f0) ∧ V.cell? ⟨(ad.add (k * 11)).block, (ad.add (k * 11)).off + 7, none⟩ = some (.int .i64 x.f5.f1) ∧ V.cell? ⟨(ad.add (k * 11)).block, (ad.add (k * 11)).off + 8, none⟩ = some (.int .i64 x.f6.f0) ∧ V.cell? ⟨(ad.add (k * 11)).block, (ad.add (k * 11)).off + 9, none⟩ = some (.int .i64 x.f6.f1) ∧ V.cell? ⟨(ad.add (k * 11)).block, (ad.add (k * 11)).off + 10, none⟩ = some (.int .i64 x.f7) ∧ Below Wk.heap.size Wk V)
        { tmps := #[.agg #[.int .i64 ho.f0, .int .i64 ho.f1, .int .i64 fi.f0, .int .i64 fi.f1, .slice (some ad) l.length c], .pointer (some ⟨w.heap.size, 0, none⟩), u2, .int .i64 k, u4, .pointer (some ⟨w.heap.size, 0, none⟩), .agg #[.int .i64 ho.f0, .int .i64 ho.f1], .bool true, .bool false, .bool false, .pointer (some ⟨w.heap.size, 2, none⟩), .agg #[.int .i64 fi.f0, .int .i64 fi.f1], .bool true, .bool false, .bool false, u15, u16, u17, u18, u19, u20, u21, u22, u23, u24, u25, u26, u27, u28, .bool false, .pointer (some ⟨w.heap.size, 4, none⟩), .slice (some ad) l.length c, .int .i64 l.length, .bool false, .int .i64 k, .pointer (some ⟨w.heap.size, 4, none⟩), .slice (some ad) l.length c, .int .i64 l.length, .bool true, u39, u40, .pointer (some ⟨w.heap.size, 4, none⟩), .slice (some ad) l.length c, .int .i64 k, .slice (some ad) k c, .pointer (some ⟨w.heap.size, 4, none⟩), .slice (some ad) l.length c, .int .i64 k, .pointer (some (ad.add (k * 11))), .agg #[.int .i64 x.f0, .int .u8 x.f1, .int .i64 x.f2, .int .i64 x.f3, .int .i64 x.f4.f0, .int .i64 x.f4.f1, .int .i64 x.f5.f0, .int .i64 x.f5.f1, .int .i64 x.f6.f0, .int .i64 x.f6.f1, .int .i64 x.f7], .int .i64 (postS x (l.take k)), u51, u52, u53], defers := [] }
        mixed (by kernel_rfl) rfl (Ahead.of3 41 51 rfl rfl (by kernel_rfl) rfl rfl) ?_ (AllFlow.ops rfl ?_) rfl ?_
      · exact ⟨z0, z1, z2, z3, z4, k0, k1, k2, k3, k4, k5, k6, k7, k8, k9, k10, (Below.refl _ _).drew⟩
      · refine ⟨?_, ?_, ?_, ?_, ?_, ?_, ?_, ?_, ?_, ?_, trivial⟩
        · exact .val 41 _ rfl rfl fun V ⟨y0, y1, y2, y3, y4, x0, x1, x2, x3, x4, x5, x6, x7, x8, x9, x10, hB_⟩ => by go_simp
        · exact .val 42 _ rfl rfl fun V ⟨y0, y1, y2, y3, y4, x0, x1, x2, x3, x4, x5, x6, x7, x8, x9, x10, hB_⟩ => by go_simp
        · exact .val 43 _ rfl rfl fun V ⟨y0, y1, y2, y3, y4, x0, x1, x2, x3, x4, x5, x6, x7, x8, x9, x10, hB_⟩ => by go_simp
        · exact .val 44 _ rfl rfl fun V ⟨y0, y1, y2, y3, y4, x0, x1, x2, x3, x4, x5, x6, x7, x8, x9, x10, hB_⟩ => by go_simp <;> exact fun hh => absurd hh (by omega)
        · exact .val 45 _ rfl rfl fun V ⟨y0, y1, y2, y3, y4, x0, x1, x2, x3, x4, x5, x6, x7, x8, x9, x10, hB_⟩ => by go_simp
        · exact .val 46 _ rfl rfl fun V ⟨y0, y1, y2, y3, y4, x0, x1, x2, x3, x4, x5, x6, x7, x8, x9, x10, hB_⟩ => by go_simp
        · exact .val 47 _ rfl rfl fun V ⟨y0, y1, y2, y3, y4, x0, x1, x2, x3, x4, x5, x6, x7, x8, x9, x10, hB_⟩ => by go_simp
        · exact .val 48 _ rfl rfl fun V ⟨y0, y1, y2, y3, y4, x0, x1, x2, x3, x4, x5, x6, x7, x8, x9, x10, hB_⟩ => by go_simp <;> exact fun hh => absurd hh (by omega)
        · exact .val 49 _ rfl rfl fun V ⟨y0, y1, y2, y3, y4, x0, x1, x2, x3, x4, x5, x6, x7, x8, x9, x10, hB_⟩ => by go_simp
        · refine .call 50 (.int .i64 (postS x (l.take k))) 23 #[.slice (some ad) k c, .agg #[.int .i64 x.f0, .int .u8 x.f1, .int .i64 x.f2, .int .i64 x.f3, .int .i64 x.f4.f0, .int .i64 x.f4.f1, .int .i64 x.f5.f0, .int .i64 x.f5.f1, .int .i64 x.f6.f0, .int .i64 x.f6.f1, .int .i64 x.f7]] rfl rfl (fun V ⟨y0, y1, y2, y3, y4, x0, x1, x2, x3, x4, x5, x6, x7, x8, x9, x10, hB_⟩ => by go_simp) fun V ⟨y0, y1, y2, y3, y4, x0, x1, x2, x3, x4, x5, x6, x7, x8, x9, x10, hB_⟩ => ?_
          refine (HPO.out _ (hB_)).mono ?_
          rintro e w' ⟨rfl, hb⟩
          exact ⟨rfl, cell_grow y0 hb, cell_grow y1 hb, cell_grow y2 hb, cell_grow y3 hb, cell_grow y4 hb, cell_growp x0 hb, cell_growp x1 hb, cell_growp x2 hb, cell_growp x3 hb, cell_growp x4 hb, cell_growp x5 hb, cell_growp x6 hb, cell_growp x7 hb, cell_growp x8 hb, cell_growp x9 hb, cell_growp x10 hb, hB_.trans (hb.mono hB_.size)⟩
      rintro V ⟨y0, y1, y2, y3, y4, x0, x1, x2, x3, x4, x5, x6, x7, x8, x9, x10, hB_⟩
      have HB5 := hid (HX.out.1.trans (hB_.mono HX.out.1.size))
      have HB6 := hid (HBk.out.trans (hB_.mono HBk.out.size))
      have hs : firstErr l (l.length - k) k = if postErr l k = 0 then firstErr l (l.length - (k + 1)) (k + 1) else postErr l k := by
        obtain ⟨d, hd⟩ : ∃ d, l.length - k = d + 1 := ⟨l.length - k - 1, by omega⟩
        rw [hd, show l.length - (k + 1) = d by omega]; rfl
      have HS := hid (HX.out.2.trans hs)
      rw [HPS.out] at HS
      clear hB_ hs z0 z1 z2 z3 z4 k0 k1 k2 k3 k4 k5 k6 k7 k8 k9 k10 HX HEk HBk y0 y1 y2 y3 y4 HPO
      generalize postS x (l.take k) = pe at *
      by_cases h6 : pe = 0
      · have HN := hid (show bookErr ho fi l = firstErr l (l.length - (k + 1)) (k + 1) by rw [HS.out, if_pos h6])
        have d6 : (pe != 0) = false := by simpa using h6
        clear h6
        go_wp2
        go_roundw
        case rel => exact ⟨k + 1, by omega, by go_num, hid ⟨HB5.out, HN.out⟩⟩
        case measure => simp [intOf]; omega
      · have HN := hid (show bookErr ho fi l = pe by rw [HS.out, if_neg h6])
        have d6 : (pe != 0) = true := by simpa using h6
        clear h6
        go_wp2
        go_ret
        exact ⟨ret_int HN.out.symm, HB6.out⟩
    · obtain rfl : k = l.length := by omega
      have HN := hid (show bookErr ho fi l = 0 by rw [HX.out.2, Nat.sub_self]; rfl)
      have z4 := blkCell HEk.out 4
      simp at z4
      go_wp2
      go_ret
      exact ⟨ret_int HN.out.symm, HBk.out⟩
end Go.Proofs.Ytbmkbokkmmdjdaa
end
