-- D6 FY D7 D8 D9 D10 J1 QA QB QR N17 N35 QT QU QV QX QY SC SD SF (wip/pack9.py)
import Derived.Test.YtbmkbokkmmdjdaaU24
import Derived.Test.YtbmkbokkmmdjdaaU17
import Derived.Test.YtbmkbokkmmdjdaaU7
import Derived.Test.YtbmkbokkmmdjdaaU2
import Derived.Test.YtbmkbokkmmdjdaaU19
section
namespace Go.Proofs.Ytbmkbokkmmdjdaa
open Go.RowKit Go.Proofs.YtbmkbokkmmdjdaaW.PrintWords Go.Proofs.YtbmkbokkmmdjdaaW.PrintLast Go.Proofs.YtbmkbokkmmdjdaaW.PrintMore
open Q Go.Shelf
attribute [local go_sem] Oper.semAt_some wide_depth wide_fn
set_option linter.unusedVariables false
set_option linter.unusedSimpArgs false

theorem late_same {l : List S36} {i : Nat} (hi : i < l.length) : lateS l[i] (l.take i) = lateB l i := by
  unfold lateS lateB
  have hln : (l.take i).length = i := by rw [List.length_take]; omega
  have hg : l.getD i z36 = l[i] := by simp [List.getD, hi]
  rw [hln, hg]
  by_cases h0 : 0 < i
  · congr 2
    have : (l.take i).getD (i - 1) z36 = l.getD (i - 1) z36 := by
      simp [List.getD, List.getElem?_take, show i - 1 < i by omega]
    rw [this]
  · rw [decide_eq_false h0]; rfl
theorem bare_same (x : S36) (hk : 1 ≤ x.f1 ∧ x.f1 ≤ 8) : neB (bareOf x) x = !(eqP (bareR x) x) := by
  obtain ⟨x0, x1, x2, x3, ⟨x4, x5⟩, ⟨x6, x7⟩, ⟨x8, x9⟩, x10⟩ := x
  simp only at hk
  rcases (show x1 = 1 ∨ x1 = 2 ∨ x1 = 3 ∨ x1 = 4 ∨ x1 = 5 ∨ x1 = 6 ∨ x1 = 7 ∨ x1 = 8 by omega) with rfl | rfl | rfl | rfl | rfl | rfl | rfl | rfl
  all_goals
    rw [Bool.eq_iff_iff]
    unfold neB bareOf eqP bareR z23
    simp
  all_goals omega
theorem post_same {l : List S36} {i : Nat} (hi : i < l.length) : postErr l i = postS l[i] (l.take i) := by
  have hg : l.getD i z36 = l[i] := by simp [List.getD, hi]
  unfold postErr postS postRes
  rw [hg, late_same hi]
  generalize l[i] = x
  by_cases hk : 1 ≤ x.f1 ∧ x.f1 ≤ 8
  · rw [if_pos hk, show decide (1 ≤ x.f1 ∧ x.f1 ≤ 5) = decide (x.f1 ≤ 5) from by congr 1; simp; omega]
    by_cases hb : betw x.f0 0 1000000000 = true
    · rw [if_pos hb, if_pos (show (1 ≤ x.f1 ∧ x.f1 ≤ 8) ∧ betw x.f0 0 1000000000 = true from ⟨hk, hb⟩)]
      split
      · rfl
      · split
        · rfl
        · split
          · rw [bare_same x hk]
            cases eqP (bareR x) x <;> rfl
          · rfl
    · rw [if_neg hb, if_neg (show ¬ ((1 ≤ x.f1 ∧ x.f1 ≤ 8) ∧ betw x.f0 0 1000000000 = true) from fun h => hb h.2)]
  · rw [if_neg hk, if_neg (show ¬ ((1 ≤ x.f1 ∧ x.f1 ≤ 8) ∧ betw x.f0 0 1000000000 = true) from fun h => hk h.1)]
set_option maxRecDepth 100000 in
set_option maxHeartbeats 8000000 in
set_option pp.deepTerms true in
set_option pp.maxSteps 1000000 in
theorem checkR_any (ho fi : S23) (A : Option Addr) (c : Nat) (l : List S36) (w : World) (hr : Kd.C k36 w A l.length l) (hc : l.length ≤ c) :
    Calls Try.prog 8 #[.agg #[.int .i64 ho.f0, .int .i64 ho.f1, .int .i64 fi.f0, .int .i64 fi.f1, .slice A l.length c]] w (RetInt (bookErr ho fi l) w) := by
  have hu1 := Try.underlying26
  have hu2 := Try.underlying23
  have HB := Below.refl w.heap.size w
  have hbel := hid (HB.alloc (Nat.le_refl _) (.cells #[.int .i64 ho.f0, .int .i64 ho.f1, .int .i64 fi.f0, .int .i64 fi.f1, .slice A l.length c] 26))
  have e0 := World.alloc_heap_new w (.cells #[.int .i64 ho.f0, .int .i64 ho.f1, .int .i64 fi.f0, .int .i64 fi.f1, .slice A l.length c] 26)
  go_enter Try.func8, Try.ntmps8
  go_wp2_with fail
  generalize w.alloc (.cells #[.int .i64 ho.f0, .int .i64 ho.f1, .int .i64 fi.f0, .int .i64 fi.f1, .slice A l.length c] 26) = W1 at *
  refine (spanR_any ho _).mono ?_
  rintro e W2 ⟨rfl, hb⟩
  have e0 := heap_grow e0 hb
  have HB2 := hid (hbel.out.trans (hb.mono hbel.out.size))
  have y0 := blkCell e0 0
  have y1 := blkCell e0 1
  have y2 := blkCell e0 2
  have y3 := blkCell e0 3
  have y4 := blkCell e0 4
  simp at y0 y1 y2 y3 y4
  clear hb hbel HB
  cases h1 : spanOk ho 1000000 with
  | false =>
    have HV := hid (show bookErr ho fi l = 1 by unfold bookErr; rw [h1]; rfl)
    clear h1
    go_wp2
    go_ret
    exact ⟨ret_int HV.out.symm, HB2.out⟩
  | true =>
  have H1 := hid h1
  clear h1
  go_wp2_with fail
  refine (spanR_any fi _).mono ?_
  rintro e W3 ⟨rfl, hb⟩
  have e0 := heap_grow e0 hb
  have HB3 := hid (HB2.out.trans (hb.mono HB2.out.size))
  clear hb HB2 y0 y1 y2 y3 y4
  have y0 := blkCell e0 0
  have y1 := blkCell e0 1
  have y2 := blkCell e0 2
  have y3 := blkCell e0 3
  have y4 := blkCell e0 4
  simp at y0 y1 y2 y3 y4
  cases h2 : spanOk fi 1000000 with
  | false =>
    have HV := hid (show bookErr ho fi l = 1 by unfold bookErr; rw [H1.out, h2]; rfl)
    clear h2
    go_wp2
    go_ret
    exact ⟨ret_int HV.out.symm, HB3.out⟩
  | true =>
  have H2 := hid h2
  clear h2
  have hclash : (mn ho.f1 fi.f1 < mx ho.f0 fi.f0) ↔ (fi.f1 < ho.f0 ∨ ho.f1 < fi.f0) := by
    have g1 := H1.out
    have g2 := H2.out
    unfold spanOk betw at g1 g2
    simp at g1 g2
    unfold mn mx
    split <;> split <;> omega
  have HE0 := hid e0
  go_upto_region 3 with fail
  go_cut [29] from 15 to 28 (fun v29 wc => v29 = .bool (decide (mn ho.f1 fi.f1 < mx ho.f0 fi.f0)) ∧ Hid (Below W3.heap.size W3 wc))
  case first =>
    by_cases g1 : ho.f0 < fi.f0
    · have HX := hid (show mx ho.f0 fi.f0 = fi.f0 by unfold mx; rw [if_pos g1])
      by_cases g2 : fi.f1 < ho.f1
      · have HN := hid (show mn ho.f1 fi.f1 = fi.f1 by unfold mn; rw [if_pos g2])
        go_wp2
        go_meet
        case rel => exact ⟨by rw [HX.out, HN.out], hid (Below.refl _ _)⟩
      · have HN := hid (show mn ho.f1 fi.f1 = ho.f1 by unfold mn; rw [if_neg g2])
        go_wp2
        go_meet
        case rel => exact ⟨by rw [HX.out, HN.out], hid (Below.refl _ _)⟩
    · have HX := hid (show mx ho.f0 fi.f0 = ho.f0 by unfold mx; rw [if_neg g1])
      by_cases g2 : fi.f1 < ho.f1
      · have HN := hid (show mn ho.f1 fi.f1 = fi.f1 by unfold mn; rw [if_pos g2])
        go_wp2
        go_meet
        case rel => exact ⟨by rw [HX.out, HN.out], hid (Below.refl _ _)⟩
      · have HN := hid (show mn ho.f1 fi.f1 = ho.f1 by unfold mn; rw [if_neg g2])
        go_wp2
        go_meet
        case rel => exact ⟨by rw [HX.out, HN.out], hid (Below.refl _ _)⟩
  case rest =>
  obtain ⟨rfl, hbc⟩ := hcut
  have HB3' := hid (HB3.out.trans (hbc.out.mono HB3.out.size))
  have e0' := heap_grow HE0.out hbc.out
  clear HB3 HE0 e0 hbc y0 y1 y2 y3 y4
  have HB3 := hid HB3'.out
  have e0 := e0'
  clear HB3' e0'
  rename World => W3
  have y0 := blkCell e0 0
  have y1 := blkCell e0 1
  have y2 := blkCell e0 2
  have y3 := blkCell e0 3
  have y4 := blkCell e0 4
  simp at y0 y1 y2 y3 y4
  cases d4 : decide (mn ho.f1 fi.f1 < mx ho.f0 fi.f0) with
  | true =>
    have HV := hid (show bookErr ho fi l = 10 by unfold bookErr; rw [H1.out, H2.out, if_neg (by decide), if_pos (hclash.1 (of_decide_eq_true d4))])
    clear d4 hclash
    go_wp2
    go_ret
    exact ⟨ret_int HV.out.symm, HB3.out⟩
  | false =>
  have h4 := of_decide_eq_false d4
  have h3 : ¬ (fi.f1 < ho.f0 ∨ ho.f1 < fi.f0) := fun h => h4 (hclash.2 h)
  have d3 := d4
  clear hclash
  by_cases h5 : 256 < l.length
  · have HV := hid (show bookErr ho fi l = 3 by unfold bookErr; rw [H1.out, H2.out, if_neg (by decide), if_neg (by omega), if_pos h5])
    have d5 : decide ((256 : Int) < (l.length : Int)) = true := decide_eq_true (by omega)
    have d5' : decide (256 < l.length) = true := decide_eq_true h5
    clear h3 h4 h5
    go_wp2
    go_ret
    exact ⟨ret_int HV.out.symm, HB3.out⟩
  have d5 : decide ((256 : Int) < (l.length : Int)) = false := decide_eq_false (by omega)
  have d5' : decide (256 < l.length) = false := decide_eq_false h5
  have HV := hid (show bookErr ho fi l = firstErr l l.length 0 by unfold bookErr; rw [H1.out, H2.out, if_neg (by decide), if_neg (by omega), if_neg h5])
  have HL := hid (Nat.not_lt.1 h5)
  have HE := hid e0
  clear h3 h4 h5 e0
  go_wp2
  clear d3 d4 d5 d5' y0 y1 y2 y3 y4
  go_loopw [3] (fun v3 X => ∃ k : Nat, k ≤ l.length ∧ v3 = .int .i64 k ∧ Hid (Below W3.heap.size W3 X ∧ bookErr ho fi l = firstErr l (l.length - k) k)) (fun v3 _ => l.length - (intOf v3).toNat)
  case atStart => exact ⟨0, by omega, rfl, hid ⟨Below.refl _ _, HV.out⟩⟩
  case round =>
    obtain ⟨k, hk, rfl, HX⟩ := hrel
    have hll := HL.out
    rename World => Wk
    have HBk := hid (HB3.out.trans (HX.out.1.mono HB3.out.size))
    have HEk := hid (heap_grow HE.out HX.out.1)
    by_cases hlt : k < l.length
    · have z0 := blkCell HEk.out 0
      have z1 := blkCell HEk.out 1
      have z2 := blkCell HEk.out 2
      have z3 := blkCell HEk.out 3
      have z4 := blkCell HEk.out 4
      simp at z0 z1 z2 z3 z4
      obtain ⟨x, hx⟩ : ∃ x, l[k] = x := ⟨_, rfl⟩
      have hgd : l.getD k z36 = x := by rw [← hx]; simp [List.getD, hlt]
      have hcc := at_T36 (Kd.C_below hr HBk.out) k (by omega) (by omega)
      rw [rdP hlt, hx] at hcc
      simp only [Int.toNat_natCast] at hcc
      obtain ⟨ad, rfl, k0, k1, k2, k3, k4, k5, k6, k7, k8, k9, k10⟩ := hcc
      have hpo : ∀ V, Below Wk.heap.size Wk V → Calls Try.prog 23 #[.slice (some ad) k c, .agg #[.int .i64 x.f0, .int .u8 x.f1, .int .i64 x.f2, .int .i64 x.f3, .int .i64 x.f4.f0, .int .i64 x.f4.f1, .int .i64 x.f5.f0, .int .i64 x.f5.f1, .int .i64 x.f6.f0, .int .i64 x.f6.f1, .int .i64 x.f7]] V (RetInt (postS x (l.take k)) V) := fun V hV => by
        have hC := Kd.C_take (m := k) (Kd.C_below hr (HBk.out.trans (hV.mono HBk.out.size))) (by omega)
        have hln : (l.take k).length = k := by rw [List.length_take]; omega
        have := postR_any x (some ad) c (l.take k) V hC (by omega) (by omega)
        rwa [hln] at this
      have HPO := hid hpo
      have HPS := hid (show postErr l k = postS x (l.take k) by rw [← hx]; exact post_same hlt)
      clear hpo hx hgd
      go_upto_region 10 with fail
      refine wp_flow [[], [0], [], [1, 0, 2], [], [4], [], [5, 4, 6], [7, 5, 4, 6], [3, 1, 0, 2, 8, 7, 5, 4, 6], [9, 3, 1, 0, 2, 8, 7, 5, 4, 6]] 10
        (fun V => V.cell? ⟨w.heap.size, 0, none⟩ = some (.int .i64 ho.f0) ∧ V.cell? ⟨w.heap.size, 1, none⟩ = some (.int .i64 ho.f1) ∧ V.cell? ⟨w.heap.size, 2, none⟩ = some (.int .i64 fi.f0) ∧ V.cell? ⟨w.heap.size, 3, none⟩ = some (.int .i64 fi.f1) ∧ V.cell? ⟨w.heap.size, 4, none⟩ = some (.slice (some ad) l.length c) ∧ V.cell? (ad.add (k * 11)) = some (.int .i64 x.f0) ∧ V.cell? ⟨(ad.add (k * 11)).block, (ad.add (k * 11)).off + 1, none⟩ = some (.int .u8 x.f1) ∧ V.cell? ⟨(ad.add (k * 11)).block, (ad.add (k * 11)).off + 2, none⟩ = some (.int .i64 x.f2) ∧ V.cell? ⟨(ad.add (k * 11)).block, (ad.add (k * 11)).off + 3, none⟩ = some (.int .i64 x.f3) ∧ V.cell? ⟨(ad.add (k * 11)).block, (ad.add (k * 11)).off + 4, none⟩ = some (.int .i64 x.f4.f0) ∧ V.cell? ⟨(ad.add (k * 11)).block, (ad.add (k * 11)).off + 5, none⟩ = some (.int .i64 x.f4.f1) ∧ V.cell? ⟨(ad.add (k * 11)).block, (ad.add (k * 11)).off + 6, none⟩ = some (.int .i64 x.f5.f0) ∧ V.cell? ⟨(ad.add (k * 11)).block, (ad.add (k * 11)).off + 7, none⟩ = some (.int .i64 x.f5.f1) ∧ V.cell? ⟨(ad.add (k * 11)).block, (ad.add (k * 11)).off + 8, none⟩ = some (.int .i64 x.f6.f0) ∧ V.cell? ⟨(ad.add (k * 11)).block, (ad.add (k * 11)).off + 9, none⟩ = some (.int .i64 x.f6.f1) ∧ V.cell? ⟨(ad.add (k * 11)).block, (ad.add (k * 11)).off + 10, none⟩ = some (.int .i64 x.f7) ∧ Below Wk.heap.size Wk V)
        { tmps := #[.agg #[.int .i64 ho.f0, .int .i64 ho.f1, .int .i64 fi.f0, .int .i64 fi.f1, .slice (some ad) l.length c], .pointer (some ⟨w.heap.size, 0, none⟩), u2, .int .i64 k, u4, .pointer (some ⟨w.heap.size, 0, none⟩), .agg #[.int .i64 ho.f0, .int .i64 ho.f1], .bool true, .bool false, .bool false, .pointer (some ⟨w.heap.size, 2, none⟩), .agg #[.int .i64 fi.f0, .int .i64 fi.f1], .bool true, .bool false, .bool false, u15, u16, u17, u18, u19, u20, u21, u22, u23, u24, u25, u26, u27, u28, .bool false, .pointer (some ⟨w.heap.size, 4, none⟩), .slice (some ad) l.length c, .int .i64 l.length, .bool false, .int .i64 k, .pointer (some ⟨w.heap.size, 4, none⟩), .slice (some ad) l.length c, .int .i64 l.length, .bool true, u39, u40, .pointer (some ⟨w.heap.size, 4, none⟩), .slice (some ad) l.length c, .int .i64 k, .slice (some ad) k c, .pointer (some ⟨w.heap.size, 4, none⟩), .slice (some ad) l.length c, .int .i64 k, .pointer (some (ad.add (k * 11))), .agg #[.int .i64 x.f0, .int .u8 x.f1, .int .i64 x.f2, .int .i64 x.f3, .int .i64 x.f4.f0, .int .i64 x.f4.f1, .int .i64 x.f5.f0, .int .i64 x.f5.f1, .int .i64 x.f6.f0, .int .i64 x.f6.f1, .int .i64 x.f7], .int .i64 (postS x (l.take k)), u51, u52, u53], defers := [] }
        mixed (by kernel_rfl) rfl (Ahead.of3 41 51 rfl rfl (by kernel_rfl) rfl rfl) ?_ (AllFlow.ops rfl ?_) rfl ?_
      · exact ⟨z0, z1, z2, z3, z4, k0, k1, k2, k3, k4, k5, k6, k7, k8, k9, k10, (Below.refl _ _).drew⟩
      · refine ⟨?_, ?_, ?_, ?_, ?_, ?_, ?_, ?_, ?_, ?_, trivial⟩
        · exact .val 41 _ rfl rfl fun V ⟨y0, y1, y2, y3, y4, x0, x1, x2, x3, x4, x5, x6, x7, x8, x9, x10, hB_⟩ => by go_simp
        · exact .val 42 _ rfl rfl fun V ⟨y0, y1, y2, y3, y4, x0, x1, x2, x3, x4, x5, x6, x7, x8, x9, x10, hB_⟩ => by go_simp
        · exact .val 43 _ rfl rfl fun V ⟨y0, y1, y2, y3, y4, x0, x1, x2, x3, x4, x5, x6, x7, x8, x9, x10, hB_⟩ => by go_simp
        · exact .val 44 _ rfl rfl fun V ⟨y0, y1, y2, y3, y4, x0, x1, x2, x3, x4, x5, x6, x7, x8, x9, x10, hB_⟩ => by go_simp <;> exact fun hh => absurd hh (by omega)
        · exact .val 45 _ rfl rfl fun V ⟨y0, y1, y2, y3, y4, x0, x1, x2, x3, x4, x5, x6, x7, x8, x9, x10, hB_⟩ => by go_simp
        · exact .val 46 _ rfl rfl fun V ⟨y0, y1, y2, y3, y4, x0, x1, x2, x3, x4, x5, x6, x7, x8, x9, x10, hB_⟩ => by go_simp
        · exact .val 47 _ rfl rfl fun V ⟨y0, y1, y2, y3, y4, x0, x1, x2, x3, x4, x5, x6, x7, x8, x9, x10, hB_⟩ => by go_simp
        · exact .val 48 _ rfl rfl fun V ⟨y0, y1, y2, y3, y4, x0, x1, x2, x3, x4, x5, x6, x7, x8, x9, x10, hB_⟩ => by go_simp <;> exact fun hh => absurd hh (by omega)
        · exact .val 49 _ rfl rfl fun V ⟨y0, y1, y2, y3, y4, x0, x1, x2, x3, x4, x5, x6, x7, x8, x9, x10, hB_⟩ => by go_simp
        · refine .call 50 (.int .i64 (postS x (l.take k))) 23 #[.slice (some ad) k c, .agg #[.int .i64 x.f0, .int .u8 x.f1, .int .i64 x.f2, .int .i64 x.f3, .int .i64 x.f4.f0, .int .i64 x.f4.f1, .int .i64 x.f5.f0, .int .i64 x.f5.f1, .int .i64 x.f6.f0, .int .i64 x.f6.f1, .int .i64 x.f7]] rfl rfl (fun V ⟨y0, y1, y2, y3, y4, x0, x1, x2, x3, x4, x5, x6, x7, x8, x9, x10, hB_⟩ => by go_simp) fun V ⟨y0, y1, y2, y3, y4, x0, x1, x2, x3, x4, x5, x6, x7, x8, x9, x10, hB_⟩ => ?_
          refine (HPO.out _ (hB_)).mono ?_
          rintro e w' ⟨rfl, hb⟩
          exact ⟨rfl, cell_grow y0 hb, cell_grow y1 hb, cell_grow y2 hb, cell_grow y3 hb, cell_grow y4 hb, cell_growp x0 hb, cell_growp x1 hb, cell_growp x2 hb, cell_growp x3 hb, cell_growp x4 hb, cell_growp x5 hb, cell_growp x6 hb, cell_growp x7 hb, cell_growp x8 hb, cell_growp x9 hb, cell_growp x10 hb, hB_.trans (hb.mono hB_.size)⟩
      rintro V ⟨y0, y1, y2, y3, y4, x0, x1, x2, x3, x4, x5, x6, x7, x8, x9, x10, hB_⟩
      have HB5 := hid (HX.out.1.trans (hB_.mono HX.out.1.size))
      have HB6 := hid (HBk.out.trans (hB_.mono HBk.out.size))
      have hs : firstErr l (l.length - k) k = if postErr l k = 0 then firstErr l (l.length - (k + 1)) (k + 1) else postErr l k := by
        obtain ⟨d, hd⟩ : ∃ d, l.length - k = d + 1 := ⟨l.length - k - 1, by omega⟩
        rw [hd, show l.length - (k + 1) = d by omega]; rfl
      have HS := hid (HX.out.2.trans hs)
      rw [HPS.out] at HS
      clear hB_ hs z0 z1 z2 z3 z4 k0 k1 k2 k3 k4 k5 k6 k7 k8 k9 k10 HX HEk HBk y0 y1 y2 y3 y4 HPO
      generalize postS x (l.take k) = pe at *
      by_cases h6 : pe = 0
      · have HN := hid (show bookErr ho fi l = firstErr l (l.length - (k + 1)) (k + 1) by rw [HS.out, if_pos h6])
        have d6 : (pe != 0) = false := by simpa using h6
        clear h6
        go_wp2
        go_roundw
        case rel => exact ⟨k + 1, by omega, by go_num, hid ⟨HB5.out, HN.out⟩⟩
        case measure => simp [intOf]; omega
      · have HN := hid (show bookErr ho fi l = pe by rw [HS.out, if_neg h6])
        have d6 : (pe != 0) = true := by simpa using h6
        clear h6
        go_wp2
        go_ret
        exact ⟨ret_int HN.out.symm, HB6.out⟩
    · obtain rfl : k = l.length := by omega
      have HN := hid (show bookErr ho fi l = 0 by rw [HX.out.2, Nat.sub_self]; rfl)
      have z4 := blkCell HEk.out 4
      simp at z4
      go_wp2
      go_ret
      exact ⟨ret_int HN.out.symm, HBk.out⟩
end Go.Proofs.Ytbmkbokkmmdjdaa
end
section
namespace Go.Proofs.Ytbmkbokkmmdjdaa
open Go.RowKit Go.Proofs.YtbmkbokkmmdjdaaW.PrintWords Go.Proofs.YtbmkbokkmmdjdaaW.PrintLast Go.Proofs.YtbmkbokkmmdjdaaW.PrintMore
open Q Go.Shelf
attribute [local go_sem] Oper.semAt_some wide_depth wide_fn
set_option linter.unusedVariables false
set_option linter.unusedSimpArgs false
abbrev Got := Nat → Option Value
def Got.upd (r : Got) (e : Nat) (u : Value) : Got := fun i => if i = e then some u else r i
structure PartlyE (ops : Array Oper) (q : Nat) (E : Nat → Bool) (listed : Array Bool) (r : Got) (T a : Act) : Prop where
  size : a.tmps.size = T.tmps.size
  defers : a.defers = T.defers
  same : ∀ t : Tmp, (∀ (j : Nat) (o : Oper), j < q → ops[j]? = some o → o.dst = some t → listed.getD j false = true ∧ E j = false) → a.tmps[t]? = T.tmps[t]?
  own : ∀ (j : Nat) (o : Oper), j < q → ops[j]? = some o → E j = true → listed.getD j false = true → ∃ u, r j = some u ∧ ∀ t, o.dst = some t → t < T.tmps.size → a.tmps[t]? = some u
  none : ∀ j, j < q → E j = true → listed.getD j false = false → r j = none
section
variable {op : Nat → (Act → World → Prop) → Act → World → Prop} {ops : Array Oper} {anc : List (List Nat)} {q : Nat} {Qn : Act → World → Prop} {T : Act}
end
def BoxE (B : Nat) (t : TypeId) (cs : Array Value) (r : Got) (V : World) : Prop :=
  (∀ e u, r e = some u → ∃ b, u = .pointer (some ⟨b, 0, none⟩) ∧ B ≤ b ∧ V.heap[b]? = some (.cells cs t (0, 0))) ∧ ∀ e e' b, e ≠ e' → r e = some (.pointer (some ⟨b, 0, none⟩)) → r e' ≠ some (.pointer (some ⟨b, 0, none⟩))
theorem BoxE.nil (B : Nat) (t : TypeId) (cs : Array Value) (V : World) : BoxE B t cs (fun _ => none) V := ⟨(fun _ _ h => by cases h), (fun _ _ _ _ h => by cases h)⟩
theorem BoxE.grow {B : Nat} {t : TypeId} {cs : Array Value} {r : Got} {V V' : World} (h : BoxE B t cs r V) (hb : Below V.heap.size V V') : BoxE B t cs r V' :=
  ⟨fun e u hu => by obtain ⟨b, h1, h2, h3⟩ := h.1 e u hu; exact ⟨b, h1, h2, heap_grow h3 hb⟩, h.2⟩
theorem BoxE.alloc {B : Nat} {t : TypeId} {cs : Array Value} {r : Got} {V : World} (h : BoxE B t cs r V) (hB : B ≤ V.heap.size) (e : Nat) : BoxE B t cs (r.upd e (.pointer (some ⟨V.heap.size, 0, none⟩))) (V.alloc (.cells cs t)) := by
  have hlt : ∀ e' b, r e' = some (.pointer (some ⟨b, 0, none⟩)) → b < V.heap.size := fun e' b hr => by
    obtain ⟨b', h1, _, h3⟩ := h.1 e' _ hr
    cases h1
    exact (Array.getElem?_eq_some_iff.1 h3).1
  refine ⟨fun e' u hu => ?_, fun e1 e2 b hne h1 h2 => ?_⟩
  · unfold Got.upd at hu
    split at hu
    · cases hu; exact ⟨_, rfl, hB, World.alloc_heap_new V _⟩
    · obtain ⟨b, g1, g2, g3⟩ := h.1 e' u hu; exact ⟨b, g1, g2, alloc_old g3⟩
  · unfold Got.upd at h1 h2
    split at h1
    · split at h2
      · omega
      · cases h1; exact absurd (hlt e2 _ h2) (by omega)
    · split at h2
      · cases h2; exact absurd (hlt e1 _ h1) (by omega)
      · exact h.2 e1 e2 b hne h1 h2
structure BoxF (B : Nat) (t : TypeId) (al : List Nat) (st : Nat → Nat) (Z : Array Value) (F : Nat → Array Value) (g : Got) (V : World) : Prop where
  at_ : ∀ e ∈ al, ∀ u, g e = some u → ∃ b, u = .pointer (some ⟨b, 0, none⟩) ∧ B ≤ b ∧ V.heap[b]? = some (.cells (if (g (st e)).isSome = true then F e else Z) t (0, 0))
  ne : ∀ e ∈ al, ∀ e' ∈ al, ∀ b, e ≠ e' → g e = some (.pointer (some ⟨b, 0, none⟩)) → g e' ≠ some (.pointer (some ⟨b, 0, none⟩))
theorem BoxF.nil (B : Nat) (t : TypeId) (al : List Nat) (st : Nat → Nat) (Z : Array Value) (F : Nat → Array Value) (V : World) : BoxF B t al st Z F (fun _ => none) V := ⟨(fun _ _ _ h => by cases h), (fun _ _ _ _ _ _ h => by cases h)⟩
theorem BoxF.grow {B : Nat} {t : TypeId} {al : List Nat} {st : Nat → Nat} {Z : Array Value} {F : Nat → Array Value} {g : Got} {V V' : World} (h : BoxF B t al st Z F g V) (hb : Below V.heap.size V V') : BoxF B t al st Z F g V' :=
  ⟨fun e he u hu => by obtain ⟨b, h1, h2, h3⟩ := h.at_ e he u hu; exact ⟨b, h1, h2, heap_grow h3 hb⟩, h.ne⟩
theorem BoxF.alloc {B : Nat} {t : TypeId} {al : List Nat} {st : Nat → Nat} {Z : Array Value} {F : Nat → Array Value} {g : Got} {V : World} (h : BoxF B t al st Z F g V) (hB : B ≤ V.heap.size) {e : Nat} (he : ∀ e' ∈ al, st e' ≠ e) (hn : g (st e) = none) (hse : st e ≠ e) : BoxF B t al st Z F (g.upd e (.pointer (some ⟨V.heap.size, 0, none⟩))) (V.alloc (.cells Z t)) := by
  have hlt : ∀ e' ∈ al, ∀ b, g e' = some (.pointer (some ⟨b, 0, none⟩)) → b < V.heap.size := fun e' he' b hr => by
    obtain ⟨b', h1, _, h3⟩ := h.at_ e' he' _ hr
    cases h1
    exact (Array.getElem?_eq_some_iff.1 h3).1
  refine ⟨fun e' he' u hu => ?_, fun e1 he1 e2 he2 b hne h1 h2 => ?_⟩
  · have hst : (g.upd e (.pointer (some ⟨V.heap.size, 0, none⟩))) (st e') = g (st e') := by simp [Got.upd, he e' he']
    rw [hst]
    unfold Got.upd at hu
    split at hu
    · rename_i h0
      subst h0
      cases hu
      rw [hn]
      exact ⟨_, rfl, hB, World.alloc_heap_new V _⟩
    · obtain ⟨b, g1, g2, g3⟩ := h.at_ e' he' u hu; exact ⟨b, g1, g2, alloc_old g3⟩
  · unfold Got.upd at h1 h2
    split at h1
    · split at h2
      · omega
      · cases h1; exact absurd (hlt e2 he2 _ h2) (by omega)
    · split at h2
      · cases h2; exact absurd (hlt e1 he1 _ h1) (by omega)
      · exact h.ne e1 he1 e2 he2 b hne h1 h2
end Go.Proofs.Ytbmkbokkmmdjdaa
end
section
namespace Go.Proofs.Ytbmkbokkmmdjdaa
open Go.RowKit Go.Proofs.YtbmkbokkmmdjdaaW.PrintWords Go.Proofs.YtbmkbokkmmdjdaaW.PrintLast Go.Proofs.YtbmkbokkmmdjdaaW.PrintMore
open Q Go.Shelf
attribute [local go_sem] Oper.semAt_some wide_depth wide_fn
set_option linter.unusedVariables false
set_option linter.unusedSimpArgs false
end Go.Proofs.Ytbmkbokkmmdjdaa
end
section
namespace Go.Proofs.Ytbmkbokkmmdjdaa
open Go.RowKit Go.Proofs.YtbmkbokkmmdjdaaW.PrintWords Go.Proofs.YtbmkbokkmmdjdaaW.PrintLast Go.Proofs.YtbmkbokkmmdjdaaW.PrintMore
open Q Go.Shelf
attribute [local go_sem] Oper.semAt_some wide_depth wide_fn
set_option linter.unusedVariables false
set_option linter.unusedSimpArgs false
attribute [local go_sem] max2_int min2_int max_two min_two
end Go.Proofs.Ytbmkbokkmmdjdaa
end
section
namespace Go.Proofs.Ytbmkbokkmmdjdaa
open Go.RowKit Go.Proofs.YtbmkbokkmmdjdaaW.PrintWords Go.Proofs.YtbmkbokkmmdjdaaW.PrintLast Go.Proofs.YtbmkbokkmmdjdaaW.PrintMore
open Q Go.Shelf
attribute [local go_sem] Oper.semAt_some wide_depth wide_fn
set_option linter.unusedVariables false
set_option linter.unusedSimpArgs false

structure QI (w : World) (ho fi : S23) (A : Option Addr) (c : Nat) (l : List S36) (s : KS) (b : S23) (vh vp : Value) (W : World) : Prop where
  st : W.heap[w.heap.size + 1 + 1]? = some (.cells #[.int .i64 b.f0, .int .i64 b.f1] 23 (0, 0))
  rh : W.ownsRow (w.heap.size + 1) 60 6 vh s.hs.length (hF s.hs)
  rp : W.ownsRow (w.heap.size + 1) 52 9 vp s.ps.length (pF s.ps)
  bx : W.heap[w.heap.size]? = some (.cells #[.int .i64 ho.f0, .int .i64 ho.f1, .int .i64 fi.f0, .int .i64 fi.f1, .slice A l.length c] 26 (0, 0))
  be : Below w.heap.size w W
theorem QI.grow {w W W' : World} {ho fi : S23} {A : Option Addr} {c : Nat} {l : List S36} {s : KS} {b : S23} {vh vp : Value} (h : QI w ho fi A c l s b vh vp W) (hb : Below W.heap.size W W') : QI w ho fi A c l s b vh vp W' :=
  ⟨heap_grow h.st hb, rings_set h.rh hb, rings_set h.rp hb, heap_grow h.bx hb, h.be.trans (hb.mono h.be.size)⟩
theorem QI.before {w W : World} {ho fi : S23} {A : Option Addr} {c : Nat} {l : List S36} {s : KS} {b : S23} {vh vp : Value} (h : QI w ho fi A c l s b vh vp W) (v : S23) : QI w ho fi A c l s v vh vp ((W.setCell ⟨w.heap.size + 1 + 1, 0, none⟩ (.int .i64 v.f0)).setCell ⟨w.heap.size + 1 + 1, 1, none⟩ (.int .i64 v.f1)) := by
  have n1 := row_ne_blk h.rh h.st (by decide)
  have n2 := row_ne_blk h.rp h.st (by decide)
  exact ⟨st2_same h.st _ _, ownsRow_setCell_other (a := ⟨w.heap.size + 1 + 1, 1, none⟩) (ownsRow_setCell_other (a := ⟨w.heap.size + 1 + 1, 0, none⟩) h.rh n1 _) n1 _, ownsRow_setCell_other (a := ⟨w.heap.size + 1 + 1, 1, none⟩) (ownsRow_setCell_other (a := ⟨w.heap.size + 1 + 1, 0, none⟩) h.rp n2 _) n2 _, st2_other (by omega) h.bx _ _, st2_below h.be (by omega) _ _⟩
theorem ps_cnt (l : List S36) : ∀ k, k ≤ l.length → (keptOf (l.take k)).ps.length = cnt (isKind 6) (l.take k) + 1
  | 0, _ => by simp [keptOf, cnt]
  | k + 1, h => by
    have ih := ps_cnt l k (by omega)
    rw [kept_take (by omega : k < l.length), cnt_take (by omega : k < l.length)]
    obtain ⟨s, hs⟩ : ∃ s, keptOf (l.take k) = s := ⟨_, rfl⟩
    rw [hs] at ih ⊢
    rw [show (if isKind 6 l[k] = true then 1 else 0) = if l[k].f1 = 6 then 1 else 0 from by unfold isKind; simp]
    unfold stepK
    by_cases h6 : l[k].f1 = 6
    · rw [if_neg (by omega), if_neg (by omega), if_neg (by omega), if_neg (by omega), if_pos h6, if_pos h6]
      unfold closeK
      rw [List.length_append, ih]
      rfl
    · rw [show (if l[k].f1 = 6 then 1 else 0) = 0 from if_neg h6, Nat.add_zero, ← ih]
      repeat' split
      all_goals simp [inK, backK, chargeK, packK, claimK]
      all_goals omega
theorem pk_at {ho fi : S23} {l : List S36} (hv : bookErr ho fi l = 0) : ∀ k, k ≤ l.length → ∀ lot p, ((keptOf (l.take k)).pk.find? fun p => p.1 == lot) = some p → ∃ a, ∃ h : a < l.length, a < k ∧ isLot 4 lot l[a] = true ∧ (∀ j (hj : j < l.length), j < a → isLot 4 lot l[j] = false) ∧ p.2.1 = (cnt (isKind 6) (l.take a) : Int) ∧ p.2.2 = l[a].f4
  | 0, _, lot, p, h => by simp [keptOf] at h
  | k + 1, hk, lot, p, h => by
    have hlt : k < l.length := by omega
    have ih := pk_at hv k (by omega) lot
    have hok := stepOk_all hv k hlt
    have hpc := ps_cnt l k (by omega)
    have hpk := (pki_take l k (by omega)).pk
    rw [kept_take hlt] at h
    generalize keptOf (l.take k) = s at *
    have old : (s.pk.find? fun p => p.1 == lot) = some p → ∃ a, ∃ h : a < l.length, a < k + 1 ∧ isLot 4 lot l[a] = true ∧ (∀ j (hj : j < l.length), j < a → isLot 4 lot l[j] = false) ∧ p.2.1 = (cnt (isKind 6) (l.take a) : Int) ∧ p.2.2 = l[a].f4 := fun h => by
      obtain ⟨a, h1, h2, h3⟩ := ih p h
      exact ⟨a, h1, by omega, h3⟩
    by_cases h4 : l[k].f1 = 4
    · have e : stepK s l[k] = packK s l[k] := by unfold stepK; simp [h4]
      rw [e] at h
      simp only [packK, List.find?_append] at h
      cases hf : s.pk.find? fun p => p.1 == lot with
      | some q =>
        rw [hf] at h
        simp at h
        subst h
        exact old hf
      | none =>
        rw [hf] at h
        simp only [Option.none_or, List.find?_cons, List.find?_nil] at h
        by_cases hl : l[k].f3 = lot
        · rw [show (l[k].f3 == lot) = true by simpa using hl] at h
          cases h
          have hany : (l.take k).any (isLot 4 lot) = false := by rw [← hpk lot, hf]; rfl
          refine ⟨k, hlt, by omega, by unfold isLot; simp [h4, hl], fun j hj hjk => ?_, ?_, rfl⟩
          · have := List.any_eq_false.1 hany l[j] (by rw [List.mem_take_iff_getElem]; exact ⟨j, by omega, rfl⟩)
            simpa using this
          · simp only [hpc]; omega
        · rw [show (l[k].f3 == lot) = false by simpa using hl] at h
          cases h
    · have e : (stepK s l[k]).pk = s.pk := by
        unfold stepK
        repeat' split
        all_goals first | rfl | omega
      rw [e] at h
      exact old h
theorem pk_idx {ho fi : S23} {l : List S36} (hv : bookErr ho fi l = 0) {k : Nat} (hk : k ≤ l.length) {lot : Int} {p : Int × Int × S23} (h : ((keptOf (l.take k)).pk.find? fun p => p.1 == lot) = some p) : ∃ a, ∃ h : a < l.length, idx (isLot 4 lot) l = (a : Int) ∧ (keptOf (l.take k)).at lot = ((cnt (isKind 6) (l.take a) : Int), l[a].f4) := by
  obtain ⟨a, h1, h2, h3, h4, h5, h6⟩ := pk_at hv k hk lot p h
  refine ⟨a, h1, idx_at h1 h3 h4, ?_⟩
  unfold KS.at
  rw [h]
  obtain ⟨p1, p2, p3⟩ := p
  simp only at h5 h6
  simp [h5, h6]
end Go.Proofs.Ytbmkbokkmmdjdaa
end
section
namespace Go.Proofs.Ytbmkbokkmmdjdaa
open Go.RowKit Go.Proofs.YtbmkbokkmmdjdaaW.PrintWords Go.Proofs.YtbmkbokkmmdjdaaW.PrintLast Go.Proofs.YtbmkbokkmmdjdaaW.PrintMore
open Q Go.Shelf
attribute [local go_sem] Oper.semAt_some wide_depth wide_fn
set_option linter.unusedVariables false
set_option linter.unusedSimpArgs false

end Go.Proofs.Ytbmkbokkmmdjdaa
end
section
namespace Go.Proofs.Ytbmkbokkmmdjdaa
open Go.RowKit Go.Proofs.YtbmkbokkmmdjdaaW.PrintWords Go.Proofs.YtbmkbokkmmdjdaaW.PrintLast Go.Proofs.YtbmkbokkmmdjdaaW.PrintMore
open Q Go.Shelf
attribute [local go_sem] Oper.semAt_some wide_depth wide_fn max2_int min2_int max_two min_two
set_option linter.unusedVariables false
set_option linter.unusedSimpArgs false
end Go.Proofs.Ytbmkbokkmmdjdaa
end
section
namespace Go.Proofs.Ytbmkbokkmmdjdaa
open Go.RowKit Go.Proofs.YtbmkbokkmmdjdaaW.PrintWords Go.Proofs.YtbmkbokkmmdjdaaW.PrintLast Go.Proofs.YtbmkbokkmmdjdaaW.PrintMore
open Q Go.Shelf
set_option linter.unusedVariables false
set_option linter.unusedSimpArgs false
end Go.Proofs.Ytbmkbokkmmdjdaa
end
section
namespace Go.Proofs.Ytbmkbokkmmdjdaa
open Go.RowKit Go.Proofs.YtbmkbokkmmdjdaaW.PrintWords Go.Proofs.YtbmkbokkmmdjdaaW.PrintLast Go.Proofs.YtbmkbokkmmdjdaaW.PrintMore
open Q Go.Shelf
set_option linter.unusedVariables false
set_option linter.unusedSimpArgs false
end Go.Proofs.Ytbmkbokkmmdjdaa
end
section
namespace Go.Proofs.Ytbmkbokkmmdjdaa
open Go.RowKit Go.Proofs.YtbmkbokkmmdjdaaW.PrintWords Go.Proofs.YtbmkbokkmmdjdaaW.PrintLast Go.Proofs.YtbmkbokkmmdjdaaW.PrintMore
open Q Go.Shelf
set_option linter.unusedVariables false
set_option linter.unusedSimpArgs false
structure HOk (h : S60) : Prop where
  r0 : 0 ≤ h.f1.f0
  rl : h.f1.f0 + h.f2.f0 ≤ 1000
  l0 : 0 ≤ h.f2.f0
  l1 : h.f2.f0 ≤ h.f2.f1
  l2 : h.f2.f1 ≤ 1000
structure POk (m : Int) (p : S52) : Prop where
  r0 : 0 ≤ p.f1.f0
  rg : p.f1.f0 ≤ p.f0.f1
  g1 : p.f0.f1 ≤ m
  k0 : 0 ≤ p.f3.f0
  k1 : p.f3.f0 ≤ m
  c0 : 0 ≤ p.f4
  c1 : p.f4 ≤ m
structure SOk (m : Int) (s : KS) : Prop where
  hs : ∀ h ∈ s.hs, HOk h
  ps : ∀ p ∈ s.ps, POk m p
  pk : ∀ q ∈ s.pk, 0 ≤ q.2.2.f0 ∧ q.2.2.f0 ≤ q.2.2.f1 ∧ q.2.2.f1 ≤ 1000000
theorem POk.z {m : Int} (h : 0 ≤ m) : POk m z52 := ⟨Int.le_refl _, Int.le_refl _, h, Int.le_refl _, h, Int.le_refl _, h⟩
end Go.Proofs.Ytbmkbokkmmdjdaa
end
section
namespace Go.Proofs.Ytbmkbokkmmdjdaa.Q
open Go.RowKit Go.Proofs.YtbmkbokkmmdjdaaW.PrintWords Go.Proofs.YtbmkbokkmmdjdaaW.PrintLast Go.Proofs.YtbmkbokkmmdjdaaW.PrintMore
attribute [local go_sem] max2_int min2_int max_two min_two max_three min_three max_four min_four   -- for this text's walks alone
set_option linter.unusedVariables false
set_option linter.unusedSimpArgs false

def culletlaw09_picked.f (a0 : Int) (a1 : Int) (a2 : Int) : Option (Int) := if (wrap64 ((wrap64 (a2 - a1)) + 1)) = 0 then (none) else (some (wrap64 (a1 + (Int.tmod (wrap64 ((Int.tmod a0 (wrap64 ((wrap64 (a2 - a1)) + 1))) + (wrap64 ((wrap64 (a2 - a1)) + 1)))) (wrap64 ((wrap64 (a2 - a1)) + 1))))))
end Go.Proofs.Ytbmkbokkmmdjdaa.Q
end
section
namespace Go.Proofs.Ytbmkbokkmmdjdaa.Q
open Go.RowKit Go.Proofs.YtbmkbokkmmdjdaaW.PrintWords Go.Proofs.YtbmkbokkmmdjdaaW.PrintLast Go.Proofs.YtbmkbokkmmdjdaaW.PrintMore
attribute [local go_sem] max2_int min2_int max_two min_two max_three min_three max_four min_four   -- for this text's walks alone
set_option linter.unusedVariables false
set_option linter.unusedSimpArgs false

def culletlaw09_at.f (l0 : List (S84)) (a1 : Int) : Option (Int × Int × Int) := if a1 < (l0.length : Int) then (if 0 ≤ a1 then (some ((rd_T84 l0 a1).f0, (rd_T84 l0 a1).f1, (rd_T84 l0 a1).f2)) else (none)) else (some (0, 0, 0))
end Go.Proofs.Ytbmkbokkmmdjdaa.Q
end
section
namespace Go.Proofs.Ytbmkbokkmmdjdaa
open Go.RowKit Go.Proofs.YtbmkbokkmmdjdaaW.PrintWords Go.Proofs.YtbmkbokkmmdjdaaW.PrintLast Go.Proofs.YtbmkbokkmmdjdaaW.PrintMore
open Q Go.Shelf
set_option linter.unusedVariables false
set_option linter.unusedSimpArgs false
structure TS where
  kl : List Int
  gl : List Int
  rc : List Int
  ls : List Int
end Go.Proofs.Ytbmkbokkmmdjdaa
end
section
namespace Go.Proofs.Ytbmkbokkmmdjdaa
open Go.RowKit Go.Proofs.YtbmkbokkmmdjdaaW.PrintWords Go.Proofs.YtbmkbokkmmdjdaaW.PrintLast Go.Proofs.YtbmkbokkmmdjdaaW.PrintMore
open Q Go.Shelf
set_option linter.unusedVariables false
set_option linter.unusedSimpArgs false
end Go.Proofs.Ytbmkbokkmmdjdaa
end
section
namespace Go.Proofs.Ytbmkbokkmmdjdaa
open Go.RowKit Go.Proofs.YtbmkbokkmmdjdaaW.PrintWords Go.Proofs.YtbmkbokkmmdjdaaW.PrintLast Go.Proofs.YtbmkbokkmmdjdaaW.PrintMore
open Q Go.Shelf
set_option linter.unusedVariables false
set_option linter.unusedSimpArgs false
structure PR (m : Int) (p : S52) : Prop where
  g0 : 0 ≤ p.f0.f0
  g1 : p.f0.f0 ≤ p.f0.f1
  g2 : p.f0.f1 ≤ m
  r0 : 0 ≤ p.f1.f0
  r1 : p.f1.f0 ≤ p.f1.f1
  r2 : p.f1.f1 ≤ m
  rg : p.f1.f0 ≤ p.f0.f1
structure HR1 (h : S60) : Prop where
  r0 : 0 ≤ h.f1.f0
  r1 : h.f1.f0 ≤ h.f1.f1
  r2 : h.f1.f1 ≤ 1000
  ok : HOk h
theorem PR.z {m : Int} (h : 0 ≤ m) : PR m z52 := ⟨Int.le_refl _, Int.le_refl _, h, Int.le_refl _, Int.le_refl _, h, Int.le_refl _⟩
structure SR (m : Int) (s : KS) : Prop where
  hs : ∀ h ∈ s.hs, HR1 h
  ps : ∀ p ∈ s.ps, PR m p
end Go.Proofs.Ytbmkbokkmmdjdaa
end
section
namespace Go.Proofs.Ytbmkbokkmmdjdaa
open Go.RowKit Go.Proofs.YtbmkbokkmmdjdaaW.PrintWords Go.Proofs.YtbmkbokkmmdjdaaW.PrintLast Go.Proofs.YtbmkbokkmmdjdaaW.PrintMore
open Q Go.Shelf
set_option linter.unusedVariables false
set_option linter.unusedSimpArgs false
structure In3 (p : S52) (g r c : Int) : Prop where
  g0 : p.f0.f0 ≤ g
  g1 : g ≤ p.f0.f1
  r0 : p.f1.f0 ≤ r
  r1 : r ≤ p.f1.f1
  c0 : p.f2.f0 ≤ c
  c1 : c ≤ p.f2.f1
end Go.Proofs.Ytbmkbokkmmdjdaa
end
section
namespace Go.Proofs.Ytbmkbokkmmdjdaa
open Go.RowKit Go.Proofs.YtbmkbokkmmdjdaaW.PrintWords Go.Proofs.YtbmkbokkmmdjdaaW.PrintLast Go.Proofs.YtbmkbokkmmdjdaaW.PrintMore
open Q Go.Shelf
set_option linter.unusedVariables false
set_option linter.unusedSimpArgs false
theorem getD_set_ne {α : Type} {l : List α} {i j : Nat} {v z : α} (h : i ≠ j) : (l.set i v).getD j z = l.getD j z := by
  simp [List.getD, List.getElem?_set, h]
structure ST where
  n : Int
  g : Int
  r : Int
  c : Int
end Go.Proofs.Ytbmkbokkmmdjdaa
end
section
namespace Go.Proofs.Ytbmkbokkmmdjdaa
open Go.RowKit Go.Proofs.YtbmkbokkmmdjdaaW.PrintWords Go.Proofs.YtbmkbokkmmdjdaaW.PrintLast Go.Proofs.YtbmkbokkmmdjdaaW.PrintMore
open Q Go.Shelf
set_option linter.unusedVariables false
set_option linter.unusedSimpArgs false
def claimP7 (t lot sh : Int) : S36 := ⟨t, 7, 0, lot, z23, z23, z23, sh⟩
theorem mostN_le (p : S52) (hi : Int) : ∀ s, mostN p hi s ≤ s
  | 0 => Nat.le_refl _
  | s + 1 => by
    rw [mostN]
    split
    · exact Nat.le_succ_of_le (mostN_le p hi s)
    · exact Nat.le_refl _
theorem mostN_spec (p : S52) (hi : Int) : ∀ s, (0 < mostN p hi s → muchB p (wrap64 (p.f4 + wrap64 ((mostN p hi s : Nat) * hi))) = false) ∧ ∀ k : Nat, mostN p hi s < k → k ≤ s → muchB p (wrap64 (p.f4 + wrap64 ((k : Nat) * hi))) = true
  | 0 => ⟨fun h => absurd h (by simp [mostN]), fun k h1 h2 => absurd h1 (by simp [mostN]; omega)⟩
  | s + 1 => by
    cases hm : muchB p (wrap64 (p.f4 + wrap64 (((s : Int) + 1) * hi))) with
    | true =>
      rw [mostN_yes hm]
      obtain ⟨h1, h2⟩ := mostN_spec p hi s
      refine ⟨h1, fun k hk hk2 => ?_⟩
      by_cases e : k = s + 1
      · subst e
        rw [show (((s + 1 : Nat) : Int)) = (s : Int) + 1 by omega]; exact hm
      · exact h2 k hk (by omega)
    | false =>
      rw [mostN_no hm]
      refine ⟨fun _ => ?_, fun k hk hk2 => absurd hk (by omega)⟩
      rw [show (((s + 1 : Nat) : Int)) = (s : Int) + 1 by omega]; exact hm
theorem kept_snoc (l : List S36) (x : S36) : keptOf (l ++ [x]) = stepK (keptOf l) x := by
  unfold keptOf
  rw [List.foldl_append]
  rfl
theorem claim_ps {s : KS} {x : S36} (n cn : Nat → Int) (j : Nat) (c : Int) : muchB ((claimK s x).ps.getD j z52) c = muchB (s.ps.getD j z52) c := by
  unfold claimK
  by_cases h : (s.at x.f3).1.toNat = j
  · by_cases hj : j < s.ps.length
    · rw [h, show (s.ps.set j (claimP s x)).getD j z52 = claimP s x by simp [List.getD, hj]]
      unfold claimP
      rw [h]
      rfl
    · rw [show (s.ps.set (s.at x.f3).1.toNat (claimP s x)).getD j z52 = s.ps.getD j z52 by simp [List.getD, hj]]
  · rw [getD_set_ne h]
theorem claim_at (s : KS) (x : S36) (lot : Int) : (claimK s x).at lot = s.at lot := rfl
theorem certK_snoc {K : KS} {l : List S36} {x : S36} {k : Nat} (hk : k ≤ l.length) : certK K (l ++ [x]) k = certK K l k := by
  unfold certK
  rw [List.take_append_of_le_length hk]
theorem certK_claim {s : KS} {x : S36} {l : List S36} {k : Nat} : certK (claimK s x) l k = certK s l k := by
  unfold certK
  rw [show (claimK s x).ps.length = s.ps.length by unfold claimK; simp]
  rfl
theorem hit_snoc {l : List S36} {x : S36} (h7 : x.f1 = 7) {i : Nat} (hi : i < l.length) : hitB (keptOf (l ++ [x])) (l ++ [x]) i = hitB (keptOf l) l i := by
  have hk : keptOf (l ++ [x]) = claimK (keptOf l) x := by rw [kept_snoc]; unfold stepK; simp [h7]
  unfold hitB
  rw [hk, claim_at, claim_ps (fun _ => 0) (fun _ => 0), certK_claim, certK_snoc (by omega)]
  rw [show (l ++ [x]).getD i z36 = l.getD i z36 by simp [List.getD, List.getElem?_append_left hi]]
theorem hit_last {l : List S36} {x : S36} (h7 : x.f1 = 7) : hitB (keptOf (l ++ [x])) (l ++ [x]) l.length = muchB ((keptOf l).ps.getD ((keptOf l).at x.f3).1.toNat z52) ((certS (keptOf l) (certK (keptOf l) l l.length) x).getD ((keptOf l).at x.f3).1.toNat 0) := by
  have hk : keptOf (l ++ [x]) = claimK (keptOf l) x := by rw [kept_snoc]; unfold stepK; simp [h7]
  have hg : (l ++ [x]).getD l.length z36 = x := by simp [List.getD]
  unfold hitB
  rw [hk, hg, claim_at, claim_ps (fun _ => 0) (fun _ => 0), certK_claim]
  rw [certK_succ (by simp), certK_snoc (Nat.le_refl _)]
  rw [show (l ++ [x])[l.length]'(by simp) = x by simp, h7]
  rfl
end Go.Proofs.Ytbmkbokkmmdjdaa
end
section
namespace Go.Proofs.Ytbmkbokkmmdjdaa
open Go.RowKit Go.Proofs.YtbmkbokkmmdjdaaW.PrintWords Go.Proofs.YtbmkbokkmmdjdaaW.PrintLast Go.Proofs.YtbmkbokkmmdjdaaW.PrintMore
open Q Go.Shelf
set_option linter.unusedVariables false
set_option linter.unusedSimpArgs false
theorem post_snoc {l : List S36} {x : S36} {j : Nat} (hj : j < l.length) : postErr (l ++ [x]) j = postErr l j := by
  have h1 : (l ++ [x]).getD j z36 = l.getD j z36 := by simp [List.getD, List.getElem?_append_left hj]
  have h2 : (l ++ [x]).take j = l.take j := List.take_append_of_le_length (by omega)
  have h3 : (l ++ [x]).getD (j - 1) z36 = l.getD (j - 1) z36 := by simp [List.getD, List.getElem?_append_left (show j - 1 < l.length by omega)]
  unfold postErr postRes lateB
  rw [h1, h2, h3]
theorem first_all {l : List S36} : ∀ (d i : Nat), (∀ j, i ≤ j → j < i + d → postErr l j = 0) → firstErr l (d + 1) i = postErr l (i + d)
  | 0, i, _ => by
    unfold firstErr
    by_cases h : postErr l i = 0
    · rw [if_pos h]; exact h.symm
    · rw [if_neg h, Nat.add_zero]
  | d + 1, i, h => by
    rw [firstErr, if_pos (h i (Nat.le_refl _) (by omega))]
    rw [first_all d (i + 1) (fun j h1 h2 => h j (by omega) (by omega))]
    congr 1
    omega
theorem book_snoc {ho fi : S23} {l : List S36} (hv : bookErr ho fi l = 0) (hl : l.length < 256) (x : S36) : bookErr ho fi (l ++ [x]) = postErr (l ++ [x]) l.length := by
  have h := bookOk_of hv
  unfold bookErr
  rw [h.hok, h.fok, if_neg (by decide), if_neg (by have := h.meets; omega)]
  rw [List.length_append]
  rw [if_neg (by simp; omega)]
  have := first_all (l := l ++ [x]) l.length 0 (fun j h1 h2 => by rw [post_snoc (by omega)]; exact h.post j (by omega))
  rw [Nat.zero_add] at this
  exact this
theorem claim_err {l : List S36} {t lot sh : Int} (ht : 0 ≤ t ∧ t ≤ 1000000000) (hla : 0 < l.length → (l.getD (l.length - 1) z36).f0 ≤ t) : postErr (l ++ [claimP7 t lot sh]) l.length = claimErr (claimP7 t lot sh) l := by
  have h1 : (l ++ [claimP7 t lot sh]).getD l.length z36 = claimP7 t lot sh := by simp [List.getD]
  have h2 : (l ++ [claimP7 t lot sh]).take l.length = l := by simp
  unfold postErr
  rw [h1, h2, if_pos (show 1 ≤ (claimP7 t lot sh).f1 ∧ (claimP7 t lot sh).f1 ≤ 8 from ⟨show (1 : Int) ≤ 7 by decide, show (7 : Int) ≤ 8 by decide⟩)]
  unfold postRes
  rw [if_pos (show betw (claimP7 t lot sh).f0 0 1000000000 = true by unfold betw claimP7; simp; omega)]
  have h3 : lateB (l ++ [claimP7 t lot sh]) l.length = false := by
    unfold lateB
    rw [h1]
    by_cases hp : 0 < l.length
    · have h4 : (l ++ [claimP7 t lot sh]).getD (l.length - 1) z36 = l.getD (l.length - 1) z36 := by simp [List.getD, List.getElem?_append_left (show l.length - 1 < l.length by omega)]
      rw [h4]
      have := hla hp
      have h5 : ¬ (claimP7 t lot sh).f0 < (l.getD (l.length - 1) z36).f0 := by show ¬ t < _; omega
      rw [decide_eq_false h5, Bool.and_false]
    · rw [decide_eq_false hp]; rfl
  rw [h3, if_neg (by decide)]
  have h6 : (decide ((claimP7 t lot sh).f1 ≤ 5) && !(spanOk (claimP7 t lot sh).f4 1000000)) = false := by unfold claimP7; rfl
  rw [h6, if_neg (by decide)]
  have h7 : entryErr (claimP7 t lot sh) l = claimErr (claimP7 t lot sh) l := by unfold entryErr claimP7; simp
  rw [h7]
  have h8 : neB (bareOf (claimP7 t lot sh)) (claimP7 t lot sh) = false := by unfold neB bareOf claimP7; simp [z23]
  by_cases hz : claimErr (claimP7 t lot sh) l = 0
  · rw [if_pos hz, h8, hz]; rfl
  · rw [if_neg hz]
end Go.Proofs.Ytbmkbokkmmdjdaa
end
section
namespace Go.Proofs.Ytbmkbokkmmdjdaa
open Go.RowKit Go.Proofs.YtbmkbokkmmdjdaaW.PrintWords Go.Proofs.YtbmkbokkmmdjdaaW.PrintLast Go.Proofs.YtbmkbokkmmdjdaaW.PrintMore
open Q Go.Shelf
set_option linter.unusedVariables false
set_option linter.unusedSimpArgs false
theorem once_err {ho fi : S23} {l : List S36} (hv : bookErr ho fi l = 0) {t lot sh : Int} (hs : 1 ≤ sh ∧ sh ≤ 1000) : (mostV ho fi l lot).2 = claimErr (claimP7 t lot sh) l := by
  have e3 : (claimP7 t lot sh).f3 = lot := rfl
  have e7 : (claimP7 t lot sh).f7 = sh := rfl
  have hb : betw sh 1 1000 = true := by unfold betw; simp; omega
  unfold mostV claimErr
  rw [e3, e7, hb]
  have h0 : ¬ bookErr ho fi l ≠ 0 := by simpa using hv
  rw [if_neg h0]
  by_cases h1 : thereErr lot l = 0
  · have h1' : ¬ thereErr lot l ≠ 0 := by simpa using h1
    rw [if_neg h1', if_pos h1, if_pos rfl]
    by_cases h2 : l.any (isLot 7 lot) = true
    · rw [if_pos h2, if_pos h2]
    · rw [if_neg h2, if_neg h2]
      cases h3 : closedB lot l with
      | false => rw [if_pos rfl, if_neg (by decide)]
      | true =>
        rw [if_neg (by decide), if_pos rfl]
        split <;> rfl
  · rw [if_pos h1, if_neg h1]
theorem once_twice {ho fi : S23} {l : List S36} (hv : bookErr ho fi l = 0) (hl : l.length ≤ 200) {t lot sh : Int} (ht : 0 ≤ t ∧ t ≤ 1000000000) (hla : 0 < l.length → (l.getD (l.length - 1) z36).f0 ≤ t) (hs : 1 ≤ sh ∧ sh ≤ 1000)
    (he : (mostV ho fi l lot).2 = 0) : bookErr ho fi (l ++ [claimP7 t lot sh]) = 0 ∧ bookErr ho fi (l ++ [claimP7 t lot sh] ++ [claimP7 t lot 1]) = 6 := by
  have h1 : bookErr ho fi (l ++ [claimP7 t lot sh]) = 0 := by
    rw [book_snoc hv (by omega), claim_err ht hla, ← once_err hv hs]
    exact he
  refine ⟨h1, ?_⟩
  rw [book_snoc h1 (by simp; omega), claim_err ht (fun _ => ?_)]
  · rw [once_err (t := t) hv hs] at he
    have hc := claimErr_zero he
    have e3 : (claimP7 t lot sh).f3 = lot := rfl
    rw [e3] at hc
    have h2 : thereErr lot (l ++ [claimP7 t lot sh]) = 0 := by
      have := thereErr_zero hc.1
      unfold thereErr
      rw [any_snoc, any_snoc, this.1, this.2]
      have : isLot 8 lot (claimP7 t lot sh) = false := by unfold isLot claimP7; simp
      rw [this]
      rfl
    have h3 : (l ++ [claimP7 t lot sh]).any (isLot 7 lot) = true := by
      rw [any_snoc]
      have : isLot 7 lot (claimP7 t lot sh) = true := by unfold isLot claimP7; simp
      rw [this, Bool.or_true]
    unfold claimErr
    rw [show (claimP7 t lot 1).f3 = lot from rfl, show (claimP7 t lot 1).f7 = 1 from rfl, if_pos h2, if_pos (show betw 1 1 1000 = true by decide), if_pos h3]
  · have : (l ++ [claimP7 t lot sh]).getD ((l ++ [claimP7 t lot sh]).length - 1) z36 = claimP7 t lot sh := by simp [List.getD]
    rw [this]
    exact Int.le_refl _
end Go.Proofs.Ytbmkbokkmmdjdaa
end
