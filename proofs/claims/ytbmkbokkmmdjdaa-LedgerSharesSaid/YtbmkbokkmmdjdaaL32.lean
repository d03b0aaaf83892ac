-- E5 (wip/pack9.py)
import Derived.Test.YtbmkbokkmmdjdaaL29
import Derived.Test.YtbmkbokkmmdjdaaL30
import Derived.Test.YtbmkbokkmmdjdaaL31
section
namespace Go.Proofs.Ytbmkbokkmmdjdaa
open Go.RowKit Go.Proofs.YtbmkbokkmmdjdaaW.PrintWords Go.Proofs.YtbmkbokkmmdjdaaW.PrintLast Go.Proofs.YtbmkbokkmmdjdaaW.PrintMore
open Q Go.Shelf
attribute [local go_sem] Oper.semAt_some wide_depth wide_fn
set_option linter.unusedVariables false
set_option linter.unusedSimpArgs false

theorem sh_close {t : TS} {l : List S36} {i : Nat} (hi : i < l.length) (h6 : l[i].f1 = 6) {n g r c : Int} (h : shT t l i = ⟨n, g, r, c⟩) : shT t l (i + 1) = ⟨wrap64 (n + 1), 0, 0, 0⟩ := by
  rw [shT, h, show l.getD i z36 = l[i] by simp [List.getD, hi]]
  unfold shStep
  rw [if_pos h6]
theorem sh_charge {t : TS} {l : List S36} {i : Nat} (hi : i < l.length) (h2 : l[i].f1 = 2) {n g r c : Int} (h : shT t l i = ⟨n, g, r, c⟩) : shT t l (i + 1) = ⟨n, wrap64 (g + t.gl.getD i 0), wrap64 (r + wrap64 (t.kl.getD i 0 * t.rc.getD l[i].f2.toNat 0)), wrap64 (wrap64 (c + wrap64 (1000 * t.kl.getD i 0)) - t.gl.getD i 0)⟩ := by
  rw [shT, h, show l.getD i z36 = l[i] by simp [List.getD, hi]]
  unfold shStep
  rw [if_neg (by omega), if_pos h2]
theorem sh_else {t : TS} {l : List S36} {i : Nat} (hi : i < l.length) (h6 : l[i].f1 ≠ 6) (h2 : l[i].f1 ≠ 2) : shT t l (i + 1) = shT t l i := by
  rw [shT, show l.getD i z36 = l[i] by simp [List.getD, hi]]
  unfold shStep
  rw [if_neg h6, if_neg h2]
theorem sh_last {ho fi : S23} {l : List S36} (hv : bookErr ho fi l = 0) (wl : List S84) {n g r c : Int} (h : shT (toldK (keptOf l).hs wl l l.length) l l.length = ⟨n, g, r, c⟩) : n + 1 = (keptOf l).ps.length := by
  have h1 := (shT_in hv wl l.length (Nat.le_refl _)).1
  rw [h] at h1
  have h2 := ps_cnt l l.length (Nat.le_refl _)
  rw [List.take_length] at h1 h2
  simp only at h1
  omega
def endQ (l : List S36) (i : Nat) (bq : Bool) : Prop := (bq = true → i = l.length ∨ ∃ h : i < l.length, l[i].f1 = 6) ∧ (bq = false → ∃ h : i < l.length, l[i].f1 ≠ 6)
set_option maxRecDepth 100000 in
set_option maxHeartbeats 8000000 in
set_option pp.deepTerms true in
set_option pp.maxSteps 1000000 in
theorem LedgerShares_any (ho fi : S23) (A : Option Addr) (c : Nat) (l : List S36) (A2 : Option Addr) (c2 : Nat) (wl : List S84) (w : World) (hr : Kd.C k36 w A l.length l) (hc : l.length ≤ c) (hr2 : Kd.C k84 w A2 wl.length wl) (hc2 : wl.length ≤ c2) :
    Calls Try.prog 4 #[.agg #[.int .i64 ho.f0, .int .i64 ho.f1, .int .i64 fi.f0, .int .i64 fi.f1, .slice A l.length c], .slice A2 wl.length c2] w (RetBool true w) := by
  have hu := Try.underlying23
  have hu1 := Try.underlying26
  have hu2 := Try.underlying44
  have hu3 := Try.underlying36
  have hu4 := Try.underlying52
  have hu7 := Try.underlying42
  have hbel := (Below.refl w.heap.size w).alloc (Nat.le_refl _) (.cells #[.int .i64 ho.f0, .int .i64 ho.f1, .int .i64 fi.f0, .int .i64 fi.f1, .slice A l.length c] 26)
  have e0 := World.alloc_heap_new w (.cells #[.int .i64 ho.f0, .int .i64 ho.f1, .int .i64 fi.f0, .int .i64 fi.f1, .slice A l.length c] 26)
  have HR := hid hr
  have HC := hid hc
  have HR2 := hid (And.intro hr2 hc2)
  clear hr hc hr2 hc2
  go_enter Try.func4, Try.ntmps4
  go_wp2_with fail
  generalize w.alloc (.cells #[.int .i64 ho.f0, .int .i64 ho.f1, .int .i64 fi.f0, .int .i64 fi.f1, .slice A l.length c] 26) = W1 at *
  refine (thick_any ho fi A c l _ (Kd.C_below HR.out hbel) HC.out).mono ?_
  rintro e W2 ⟨rfl, hb⟩
  have HBZ := hid (And.intro (hbel.trans (hb.mono hbel.size)) (heap_grow e0 hb))
  clear hbel hb e0
  have y0 := blkCell HBZ.out.2 0
  have y1 := blkCell HBZ.out.2 1
  have y2 := blkCell HBZ.out.2 2
  have y3 := blkCell HBZ.out.2 3
  have y4 := blkCell HBZ.out.2 4
  simp at y0 y1 y2 y3 y4
  cases thickB l with
  | true =>
    go_wp2_with fail
    refine (sums_any _).mono ?_
    rintro e WS ⟨rfl, hb⟩
    have H3 := hid (HBZ.out.1.trans (hb.mono HBZ.out.1.size))
    clear hb
    go_wp2
    go_ret
    exact ⟨rfl, H3.out⟩
  | false =>
  by_cases h40 : 40 < l.length
  · have d0 : decide ((40 : Int) < (l.length : Int)) = true := decide_eq_true (by omega)
    have d1 : decide (40 < l.length) = true := decide_eq_true h40
    go_wp2_with fail
    refine (sums_any _).mono ?_
    rintro e WS ⟨rfl, hb⟩
    have H3 := hid (HBZ.out.1.trans (hb.mono HBZ.out.1.size))
    clear hb
    go_wp2
    go_ret
    exact ⟨rfl, H3.out⟩
  have d0 : decide ((40 : Int) < (l.length : Int)) = false := decide_eq_false (by omega)
  have d1 : decide (40 < l.length) = false := decide_eq_false h40
  have HL := hid (show l.length ≤ 40 by omega)
  clear h40
  obtain ⟨er, her⟩ : ∃ er, bookErr ho fi l = er := ⟨_, rfl⟩
  have hck := checkR_any ho fi A c l _ (Kd.C_below HR.out HBZ.out.1) HC.out
  rw [her] at hck
  have HCK := hid hck
  have HER := hid her
  clear hck her
  go_wp2_with fail
  refine HCK.out.mono ?_
  rintro e WB ⟨rfl, hb⟩
  have HBZ' := hid (And.intro (HBZ.out.1.trans (hb.mono HBZ.out.1.size)) (heap_grow HBZ.out.2 hb))
  clear HBZ
  have HBZ := HBZ'
  clear HBZ'
  clear hb HCK y0 y1 y2 y3 y4 d0 d1
  have y0 := blkCell HBZ.out.2 0
  have y1 := blkCell HBZ.out.2 1
  have y2 := blkCell HBZ.out.2 2
  have y3 := blkCell HBZ.out.2 3
  have y4 := blkCell HBZ.out.2 4
  simp at y0 y1 y2 y3 y4
  by_cases hv : er = 0
  rotate_left
  · have d0 : (er != 0) = true := by simpa using hv
    clear hv
    go_wp2_with fail
    refine (sums_any _).mono ?_
    rintro e WS ⟨rfl, hb⟩
    have H3 := hid (HBZ.out.1.trans (hb.mono HBZ.out.1.size))
    clear hb
    go_wp2
    go_ret
    exact ⟨rfl, H3.out⟩
  subst hv
  have hv := HER.out
  have HV := hid hv
  have hhs : heapsOf ho fi l = (keptOf l).hs := by unfold heapsOf; rw [if_pos hv]
  have HHS := hid hhs
  have hps : periodsOf ho fi l = (keptOf l).ps := by unfold periodsOf; rw [if_pos hv]
  have HPS := hid hps
  clear hv hhs hps HER
  have d0 : ((0 : Int) != 0) = false := by decide
  go_wp2_with fail
  refine (HeapsR_any ho fi A c l _ (Kd.C_below HR.out HBZ.out.1) HC.out).mono ?_
  rintro e WC ⟨v, rfl, hrb, hb⟩
  obtain ⟨Ab, cb, rfl⟩ := own_slice hrb
  have HBZ' := hid (And.intro (HBZ.out.1.trans (hb.mono HBZ.out.1.size)) (heap_grow HBZ.out.2 hb))
  clear HBZ
  have HBZ := HBZ'
  clear HBZ'
  rw [HHS.out] at hrb
  have HRH := hid (own_lower (Nat.zero_le _) hrb)
  rw [HHS.out]
  clear hb hrb y0 y1 y2 y3 y4
  have y0 := blkCell HBZ.out.2 0
  have y1 := blkCell HBZ.out.2 1
  have y2 := blkCell HBZ.out.2 2
  have y3 := blkCell HBZ.out.2 3
  have y4 := blkCell HBZ.out.2 4
  simp at y0 y1 y2 y3 y4
  have htd := told_any ho fi A c l (.slice Ab (keptOf l).hs.length cb) A2 c2 wl WC (Kd.C_below HR.out HBZ.out.1) HC.out HV.out HRH.out (Kd.C_below HR2.out.1 HBZ.out.1) HR2.out.2
  have HTD := hid htd
  clear htd
  go_wp2_with fail
  refine HTD.out.mono ?_
  rintro e WD ⟨v, rfl, hri, hb⟩
  obtain ⟨A0, c0, hv0⟩ := own_slice (hri.row 0 (by decide))
  obtain ⟨A1, c1, hv1⟩ := own_slice (hri.row 1 (by decide))
  obtain ⟨A3, c3, hv2⟩ := own_slice (hri.row 2 (by decide))
  obtain ⟨A4, c4, hv3⟩ := own_slice (hri.row 3 (by decide))
  have HL0 := hid (show (Lf (toldK (keptOf l).hs wl l l.length) 0).length = l.length from (told_len (keptOf l).hs wl l l.length (Nat.le_refl _)).1)
  have HL1 := hid (show (Lf (toldK (keptOf l).hs wl l l.length) 1).length = l.length from (told_len (keptOf l).hs wl l l.length (Nat.le_refl _)).2.1)
  have HL2 := hid (show (Lf (toldK (keptOf l).hs wl l l.length) 2).length = (keptOf l).hs.length from by
    have h1 := (told_len (keptOf l).hs wl l l.length (Nat.le_refl _)).2.2.1
    have h2 := (pki_take l l.length (Nat.le_refl _)).hs
    rw [List.take_length] at h1 h2
    rw [h2]; exact h1)
  generalize hn0 : (Lf (toldK (keptOf l).hs wl l l.length) 0).length = n0 at hv0
  generalize hn1 : (Lf (toldK (keptOf l).hs wl l l.length) 1).length = n1 at hv1
  generalize hn2 : (Lf (toldK (keptOf l).hs wl l l.length) 2).length = n2 at hv2
  generalize (Lf (toldK (keptOf l).hs wl l l.length) 3).length = n3 at hv3
  rw [hv0, hv1, hv2, hv3]
  have HVV := hid (And.intro hv0 (And.intro hv1 (And.intro hv2 hv3)))
  have HNN := hid (And.intro (show n0 = l.length by have := HL0.out; omega) (And.intro (show n1 = l.length by have := HL1.out; omega) (show n2 = (keptOf l).hs.length by have := HL2.out; omega)))
  clear hv0 hv1 hv2 hv3 hn0 hn1 hn2 HL0 HL1 HL2
  have hg := (Below.refl WD.heap.size WD).alloc (Nat.le_refl _) (.cells #[.slice A0 n0 c0, .slice A1 n1 c1, .slice A3 n2 c3, .slice A4 n3 c4] 44)
  have HBX := hid (And.intro ((HBZ.out.1.trans (hb.mono HBZ.out.1.size)).trans (hg.mono (HBZ.out.1.trans (hb.mono HBZ.out.1.size)).size)) (heap_grow (heap_grow HBZ.out.2 hb) hg))
  have HTB := hid (World.alloc_heap_new WD (.cells #[.slice A0 n0 c0, .slice A1 n1 c1, .slice A3 n2 c3, .slice A4 n3 c4] 44))
  have HRI := hid (hri.grow hg)
  clear hb hri hg HBZ HRH HTD y0 y1 y2 y3 y4
  go_upto_region 5 with fail
  generalize WD.alloc (.cells #[.slice A0 n0 c0, .slice A1 n1 c1, .slice A3 n2 c3, .slice A4 n3 c4] 44) = W4 at *
  generalize WD.heap.size = BT at *
  have y0 := blkCell HBX.out.2 0
  have y1 := blkCell HBX.out.2 1
  have y2 := blkCell HBX.out.2 2
  have y3 := blkCell HBX.out.2 3
  have y4 := blkCell HBX.out.2 4
  simp at y0 y1 y2 y3 y4
  have hpe := Periods_any ho fi A c l W4 (Kd.C_below HR.out HBX.out.1) HC.out
  rw [HPS.out, HV.out] at hpe
  have HPE := hid hpe
  clear hpe
  go_wp2_with fail
  refine HPE.out.mono ?_
  rintro e W5 ⟨vp, rfl, hrp, hb⟩
  have hp1 : 1 ≤ (keptOf l).ps.length := by have := (kept_len l l.length (Nat.le_refl _)).1; rwa [List.take_length] at this
  obtain ⟨gp, cp, hvp⟩ : ∃ gp cp, vp = .slice (some ⟨gp, 0, none⟩) (keptOf l).ps.length cp := by
    rcases hrp.2 with ⟨h1, h2⟩ | ⟨g1, c1, u1, h1, _⟩
    · omega
    · exact ⟨g1, c1, h1⟩
  subst hvp
  have HB5 := hid (And.intro (HBX.out.1.trans (hb.mono HBX.out.1.size)) (heap_grow HBX.out.2 hb))
  have HT5 := hid (heap_grow HTB.out hb)
  have HRI5 := hid (HRI.out.grow hb)
  have HRP := hid (own_lower (Nat.zero_le _) hrp)
  clear hb HBX HTB HRI HPE hrp hp1 y0 y1 y2 y3 y4
  obtain ⟨ts, hts⟩ : ∃ q, toldK (keptOf l).hs wl l l.length = q := ⟨_, rfl⟩
  rw [hts] at HRI5
  have HTS := hid hts
  obtain ⟨np, hnp⟩ : ∃ np, (keptOf l).ps.length = np := ⟨_, rfl⟩
  have HNP := hid hnp
  have HN := hid (show np ≤ 256 by have := kept_len l l.length (Nat.le_refl _); rw [List.take_length] at this; have := HL.out; omega)
  rw [hnp]
  clear hts hnp
  have HB0 := hid (Below.refl W5.heap.size W5)
  go_wp2_with fail
  go_loopw [10, 11, 12, 13, 14] (fun v10 v11 v12 v13 v14 X => ∃ i : Nat, i ≤ l.length + 1 ∧ v14 = .int .i64 i ∧ ∃ n g r k : Int, v10 = .int .i64 n ∧ v11 = .int .i64 g ∧ v12 = .int .i64 r ∧ v13 = .int .i64 k ∧ Hid (Below W5.heap.size W5 X ∧ (i ≤ l.length → shT ts l i = ⟨n, g, r, k⟩) ∧ (i = l.length + 1 → n = (np : Int)))) (fun _ _ _ _ v14 _ => l.length + 2 - (intOf v14).toNat)
  case atStart => exact ⟨0, by omega, rfl, 0, 0, 0, 0, rfl, rfl, rfl, rfl, hid ⟨HB0.out, fun _ => rfl, fun h => by omega⟩⟩
  case round =>
    obtain ⟨i, hi, rfl, sn, sg, sr, sc, rfl, rfl, rfl, rfl, HX⟩ := hrel
    rename World => Wk
    have hbk := heap_grow HB5.out.2 HX.out.1
    have y4 := blkCell hbk 4
    simp at y4
    by_cases hle : i ≤ l.length
    · have hle2 : (i : Int) ≤ (l.length : Int) := by omega
      have HLE := hid hle
      have HJ := hid HX.out.1
      have HSH := hid (HX.out.2.1 hle)
      clear HX
      go_upto_region 13 with fail
      go_cut [68] from 55 to 67 (fun v68 wc => ∃ bq : Bool, v68 = .bool bq ∧ Hid (Below Wk.heap.size Wk wc ∧ endQ l i bq))
      case first =>
        have HBk := hid (Below.refl Wk.heap.size Wk)
        by_cases hlt : i < l.length
        · have b1 : ((i : Int) == (l.length : Int)) = false := by simp; omega
          have b2 : (i == l.length) = false := by simp; omega
          obtain ⟨x, hx⟩ : ∃ x, l[i] = x := ⟨_, rfl⟩
          have HXX := hid hx
          have HLT := hid hlt
          have hcc := at_T36 (Kd.C_below HR.out (HB5.out.1.trans (HJ.out.mono HB5.out.1.size))) i (by omega) (by have := HL.out; omega)
          rw [rdP hlt, hx] at hcc
          simp only [Int.toNat_natCast] at hcc
          obtain ⟨ad, rfl, k0, k1, k2, k3, k4, k5, k6, k7, k8, k9, k10⟩ := hcc
          have hjl : (i : Int) < (l.length : Int) := by omega
          clear hx k0 k2 k3 k4 k5 k6 k7 k8 k9 k10
          by_cases h6 : x.f1 = 6
          · have b3 : (x.f1 == 6) = true := by simp [h6]
            have H6 := hid h6
            clear h6
            go_wp2
            go_meet
            case rel => exact ⟨_, rfl, hid ⟨HBk.out, ⟨fun _ => .inr ⟨HLT.out, by rw [HXX.out]; exact H6.out⟩, fun h => by cases h⟩⟩⟩
          · have b3 : (x.f1 == 6) = false := by simp [h6]
            have H6 := hid h6
            clear h6
            go_wp2
            go_meet
            case rel => exact ⟨_, rfl, hid ⟨HBk.out, ⟨fun h => (by cases h), fun _ => ⟨HLT.out, by rw [HXX.out]; exact H6.out⟩⟩⟩⟩
        · obtain rfl : i = l.length := by omega
          have b1 : ((l.length : Int) == (l.length : Int)) = true := by simp
          clear hlt
          go_wp2
          go_meet
          case rel => exact ⟨_, rfl, hid ⟨HBk.out, ⟨fun _ => .inl rfl, fun h => by cases h⟩⟩⟩
      case rest =>
      obtain ⟨bq, rfl, hcb⟩ := hcut
      have HJ2 := hid (HJ.out.trans (hcb.out.1.mono HJ.out.size))
      have HQ := hid hcb.out.2
      clear HJ hcb y4 hbk
      clear Wk
      rename World => Wk
      have HJ := HJ2
      clear HJ2
      have hbk := heap_grow HB5.out.2 HJ.out
      have y0 := blkCell hbk 0
      have y1 := blkCell hbk 1
      have y2 := blkCell hbk 2
      have y3 := blkCell hbk 3
      have y4 := blkCell hbk 4
      simp at y0 y1 y2 y3 y4
      cases bq with
      | true =>
        have hee := shares_end HV.out wl HLE.out (HQ.out.1 rfl) (s := ⟨sn, sg, sr, sc⟩) (by rw [HTS.out]; exact HSH.out) rfl
        simp only at hee
        rw [HNP.out] at hee
        obtain ⟨m, rfl⟩ : ∃ m : Nat, sn = m := ⟨sn.toNat, by omega⟩
        obtain ⟨pp, hpp⟩ : ∃ q, (keptOf l).ps.getD m z52 = q := ⟨_, rfl⟩
        simp only [Int.toNat_natCast] at hee
        rw [hpp] at hee
        have HPP := hid hpp
        obtain ⟨am, ham⟩ : ∃ q, shareS pp = q := ⟨_, rfl⟩
        rw [ham] at hee
        have HEE := hid hee
        have hsv : shareRes ho fi l m = (am, 0) := by
          unfold shareRes
          rw [if_pos HV.out, if_pos ⟨by omega, by rw [HNP.out]; omega⟩, Int.toNat_natCast, hpp, ham]
        have hsh := Share_any ho fi A c l m Wk (Kd.C_below HR.out (HB5.out.1.trans (HJ.out.mono HB5.out.1.size))) HC.out
        rw [hsv] at hsh
        have HSA := hid hsh
        clear hee hpp ham hsv hsh
        go_wp2_with fail
        refine HSA.out.mono ?_
        rintro e W8 ⟨rfl, hb⟩
        have hg := (Below.refl W8.heap.size W8).alloc (Nat.le_refl _) (.cells #[.int .i64 am.f0, .int .i64 am.f1] 23)
        have HJ9 := hid ((HJ.out.trans (hb.mono HJ.out.size)).trans (hg.mono (HJ.out.trans (hb.mono HJ.out.size)).size))
        have H15 := hid (World.alloc_heap_new W8 (.cells #[.int .i64 am.f0, .int .i64 am.f1] 23))
        clear hb hg HJ HSA y0 y1 y2 y3 y4 hbk
        go_upto_region 15 with fail
        generalize W8.alloc (.cells #[.int .i64 am.f0, .int .i64 am.f1] 23) = W9 at *
        generalize W8.heap.size = B15 at *
        have y0 := blkCell H15.out 0
        have y1 := blkCell H15.out 1
        simp at y0 y1
        have hrw := rings_set HRP.out HJ9.out
        have hml : m < np := by have := HEE.out.1; omega
        have hq : ∀ j, j < 9 → W9.cell? ⟨gp, m * 9 + j, none⟩ = (pC pp)[j]? := fun j hj => by
          have e := hrw.cellAt (m * 9 + j) (by have := HNP.out; omega)
          rw [pF_at (by have := HNP.out; omega) hj, HPP.out] at e; exact e
        have q0 : W9.cell? ⟨gp, m * 9, none⟩ = some (.int .i64 pp.f0.f0) := hq 0 (by omega)
        have q1 := hq 1 (by omega)
        have q2 := hq 2 (by omega)
        have q3 := hq 3 (by omega)
        have q4 := hq 4 (by omega)
        have q5 := hq 5 (by omega)
        simp [pC] at q1 q2 q3 q4 q5
        have hi3 := HEE.out.2.1
        have hi4 := hi3.g0
        have hi5 := hi3.g1
        have hi6 := hi3.r0
        have hi7 := hi3.r1
        have hi8 := hi3.c0
        have hi9 := hi3.c1
        have hml2 : (m : Int) < (np : Int) := by omega
        have dn : decide ((np : Int) ≤ (m : Int)) = false := decide_eq_false (by omega)
        have dn2 : decide (np ≤ m) = false := decide_eq_false (by omega)
        have g0 : decide (sg < pp.f0.f0) = false := decide_eq_false (by omega)
        have g1 : decide (pp.f0.f1 < sg) = false := decide_eq_false (by omega)
        have g2 : decide (sr < pp.f1.f0) = false := decide_eq_false (by omega)
        have g3 : decide (pp.f1.f1 < sr) = false := decide_eq_false (by omega)
        have g4 : decide (sc < pp.f2.f0) = false := decide_eq_false (by omega)
        have g5 : decide (pp.f2.f1 < sc) = false := decide_eq_false (by omega)
        clear hi3 hi4 hi5 hi6 hi7 hi8 hi9 hq hrw
        go_cut [142] from 75 to 141 (fun v142 wc => v142 = .bool false ∧ wc = W9)
        case first =>
          go_wp2
          go_meet
          case rel => exact ⟨rfl, rfl⟩
        case rest =>
        obtain ⟨rfl, rfl⟩ := hcut
        clear g0 g1 g2 g3 g4 g5 q0 q1 q2 q3 q4 q5 dn dn2 hml hml2
        rename World => W9
        have HN1 := hid (show wrap64 ((m : Int) + 1) = (m : Int) + 1 from wrap64_id (by omega) (by have := HN.out; have := HEE.out.1; omega))
        go_upto_region 17 with fail
        go_cut [162] from 143 to 161 (fun v162 wc => v162 = .bool false ∧ wc = W9)
        case first =>
          by_cases hg : 0 < sg
          · have hw := HEE.out.2.2 hg
            have b1 : decide (0 < sg) = true := decide_eq_true hg
            have b2 : decide (wrap64 (1000 * sr) < wrap64 (am.f0 * sg)) = false := decide_eq_false (by omega)
            have b3 : decide (wrap64 (am.f1 * sg) < wrap64 (1000 * sr)) = false := decide_eq_false (by omega)
            clear hw hg
            go_wp2
            go_meet
            case rel => exact ⟨rfl, rfl⟩
          · have b1 : decide (0 < sg) = false := decide_eq_false hg
            clear hg
            go_wp2
            go_meet
            case rel => exact ⟨rfl, rfl⟩
        case rest =>
        obtain ⟨rfl, rfl⟩ := hcut
        rename World => W9
        have hl2 := HL.out
        have hle2 := HLE.out
        clear y0 y1
        go_wp2
        go_roundw
        case rel => exact ⟨i + 1, by have := HLE.out; omega, by have := HLE.out; have := HL.out; go_num, _, _, _, _, rfl, rfl, rfl, rfl, hid ⟨HJ9.out, fun h => by
          rcases HQ.out.1 rfl with h1 | ⟨h1, h6⟩
          · omega
          · exact sh_close h1 h6 HSH.out, fun h => by
          rcases HQ.out.1 rfl with h1 | ⟨h1, h6⟩
          · subst h1
            have h2 := HSH.out
            rw [← HTS.out] at h2
            have h3 := sh_last HV.out wl h2
            have := HN1.out
            have := HNP.out
            omega
          · omega⟩⟩
        case measure => have := HLE.out; simp [intOf]; omega
      | false =>
        obtain ⟨hlt, h6⟩ := HQ.out.2 rfl
        obtain ⟨x, hx⟩ : ∃ x, l[i] = x := ⟨_, rfl⟩
        rw [hx] at h6
        have HXX := hid hx
        have HLT := hid hlt
        have H6 := hid h6
        have hcc := at_T36 (Kd.C_below HR.out (HB5.out.1.trans (HJ.out.mono HB5.out.1.size))) i (by omega) (by have := HL.out; omega)
        rw [rdP hlt, hx] at hcc
        simp only [Int.toNat_natCast] at hcc
        obtain ⟨ad, rfl, k0, k1, k2, k3, k4, k5, k6, k7, k8, k9, k10⟩ := hcc
        have hjl : (i : Int) < (l.length : Int) := by omega
        clear hx k0 k3 k4 k5 k6 k7 k8 k9 k10 y0 y1 y2 y3 HQ
        by_cases h2 : x.f1 = 2
        rotate_left
        · have b3 : (x.f1 == 2) = false := by simp [h2]
          have H2 := hid h2
          have hl2 := HL.out
          clear h2 h6
          go_wp2
          go_roundw
          case rel => exact ⟨i + 1, by have := HLE.out; omega, by have := HLE.out; have := HL.out; go_num, _, _, _, _, rfl, rfl, rfl, rfl, hid ⟨HJ.out, fun h => by
            rw [sh_else HLT.out (by rw [HXX.out]; exact H6.out) (by rw [HXX.out]; exact H2.out)]
            exact HSH.out, fun h => by have := HLT.out; omega⟩⟩
          case measure => have := HLE.out; simp [intOf]; omega
        · have b3 : (x.f1 == 2) = true := by simp [h2]
          have H2 := hid h2
          have hch := (stepOk_all HV.out i HLT.out).charge (by rw [HXX.out]; exact h2)
          rw [HXX.out] at hch
          obtain ⟨jh, hjh⟩ : ∃ jh : Nat, x.f2 = jh := ⟨x.f2.toNat, by omega⟩
          have hjr : jh < (keptOf l).hs.length := by
            have h3 := (hs_from (l := l) (i := i) (j := jh) (by omega) (l.length - i) (by omega)).1
            rw [show i + (l.length - i) = l.length by omega, List.take_length] at h3
            omega
          have HJH := hid hjh
          have HJR := hid hjr
          rw [hjh] at k2
          have ht := heap_grow HT5.out HJ.out
          have hri := HRI5.out.grow HJ.out
          have row0 := hri.row 0 (by decide)
          have row1 := hri.row 1 (by decide)
          have row2 := hri.row 2 (by decide)
          rw [HVV.out.1] at row0
          rw [HVV.out.2.1] at row1
          rw [HVV.out.2.2.1] at row2
          have e0 : Lf ts 0 = ts.kl := rfl
          have e1 : Lf ts 1 = ts.gl := rfl
          have e2 : Lf ts 2 = ts.rc := rfl
          have hln := told_len (keptOf l).hs wl l l.length (Nat.le_refl _)
          rw [HTS.out] at hln
          have hrl : ts.rc.length = (keptOf l).hs.length := by
            have h2 := (pki_take l l.length (Nat.le_refl _)).hs
            rw [List.take_length] at h2
            rw [h2, hln.2.2.1, List.take_length]
          rw [e0, hln.1] at row0
          rw [e1, hln.2.1] at row1
          rw [e2, hrl] at row2
          obtain ⟨nr, hnr⟩ : ∃ nr, (keptOf l).hs.length = nr := ⟨_, rfl⟩
          rw [hnr] at row2 hjr hrl
          have hnn := HNN.out
          rw [hnr] at hnn
          obtain ⟨m0, m1, m2⟩ := hnn
          obtain rfl := m0
          obtain rfl := m1
          obtain rfl := m2.symm
          obtain ⟨gk, hgk⟩ : ∃ gk, A0 = some ⟨gk, 0, none⟩ := by
            rcases row0.2 with ⟨h1, h2⟩ | ⟨g1, c1, u1, h1, _⟩
            · omega
            · injection h1 with q1 q2 q3; exact ⟨g1, q1⟩
          obtain ⟨gg, hgg⟩ : ∃ gk, A1 = some ⟨gk, 0, none⟩ := by
            rcases row1.2 with ⟨h1, h2⟩ | ⟨g1, c1, u1, h1, _⟩
            · omega
            · injection h1 with q1 q2 q3; exact ⟨g1, q1⟩
          obtain ⟨gr, hgr⟩ : ∃ gk, A3 = some ⟨gk, 0, none⟩ := by
            rcases row2.2 with ⟨h1, h2⟩ | ⟨g1, c1, u1, h1, _⟩
            · omega
            · injection h1 with q1 q2 q3; exact ⟨g1, q1⟩
          subst hgk hgg hgr
          obtain ⟨kl, hkl⟩ : ∃ q, ts.kl.getD i 0 = q := ⟨_, rfl⟩
          obtain ⟨gl, hgl⟩ : ∃ q, ts.gl.getD i 0 = q := ⟨_, rfl⟩
          obtain ⟨rv, hrv⟩ : ∃ q, ts.rc.getD jh 0 = q := ⟨_, rfl⟩
          have r0 : Wk.cell? ⟨gk, i, none⟩ = some (.int .i64 kl) := by
            have e := row0.cellAt i (by omega)
            rw [cF_at (by rw [hln.1]; exact hlt), hkl] at e; exact e
          have r1 : Wk.cell? ⟨gg, i, none⟩ = some (.int .i64 gl) := by
            have e := row1.cellAt i (by omega)
            rw [cF_at (by rw [hln.2.1]; exact hlt), hgl] at e; exact e
          have r2 : Wk.cell? ⟨gr, jh, none⟩ = some (.int .i64 rv) := by
            have e := row2.cellAt jh (by omega)
            rw [cF_at (by rw [hrl]; exact hjr), hrv] at e; exact e
          have t0 := blkCell ht 0
          have t1 := blkCell ht 1
          have t2 := blkCell ht 2
          simp at t0 t1 t2
          have HSN := hid (show shT ts l (i + 1) = ⟨sn, wrap64 (sg + gl), wrap64 (sr + wrap64 (kl * rv)), wrap64 (wrap64 (sc + wrap64 (1000 * kl)) - gl)⟩ by
            rw [sh_charge HLT.out (by rw [HXX.out]; exact h2) HSH.out, HXX.out, hjh, Int.toNat_natCast, hkl, hgl, hrv])
          have hjr2 : (jh : Int) < (nr : Int) := by omega
          clear h2 h6 hch hjh ht hri row0 row1 row2 e0 e1 e2 hln hrl hnr hkl hgl hrv hbk
          go_upto_region 24 with fail
          clear k1 k2 y4 b3
          have Wc0 := Wk
          clear Wc0
          obtain ⟨Wc, hWc⟩ : ∃ W, W = Wk := ⟨_, rfl⟩
          rw [← hWc] at t0 t1 t2 r0 r1 r2 HJ ⊢
          clear hWc
          refine wp_flow [[], [], [1], [], [2, 1, 3], [4, 2, 1, 3], [], [6], [], [7, 6, 8], [9, 7, 6, 8], [5, 4, 2, 1, 3, 10, 9, 7, 6, 8], [0, 11, 5, 4, 2, 1, 3, 10, 9, 7, 6, 8], [12, 0, 11, 5, 4, 2, 1, 3, 10, 9, 7, 6, 8]] 13
            (fun V => V.cell? ⟨BT, 0, none⟩ = some (.slice (some ⟨gk, 0, none⟩) l.length c0) ∧ V.cell? ⟨BT, 1, none⟩ = some (.slice (some ⟨gg, 0, none⟩) l.length c1) ∧ V.cell? ⟨BT, 2, none⟩ = some (.slice (some ⟨gr, 0, none⟩) nr c3) ∧ V.cell? ⟨gk, i, none⟩ = some (.int .i64 kl) ∧ V.cell? ⟨gg, i, none⟩ = some (.int .i64 gl) ∧ V.cell? ⟨gr, jh, none⟩ = some (.int .i64 rv) ∧ Below Wc.heap.size Wc V)
            { tmps := #[.agg #[.int .i64 ho.f0, .int .i64 ho.f1, .int .i64 fi.f0, .int .i64 fi.f1, .slice (some ad) l.length c], .slice A2 wl.length c2, .pointer (some ⟨w.heap.size, 0, none⟩), undef, u4, .slice Ab (keptOf l).hs.length cb, .int .i64 (bookErr ho fi l), .pointer (some ⟨BT, 0, none⟩), .slice (some ⟨gp, 0, none⟩) np cp, .int .i64 0, .int .i64 sn, .int .i64 (wrap64 (sg + gl)), .int .i64 sr, .int .i64 sc, .int .i64 i, u15, u16, .int .i64 jh, .agg #[.int .i64 ho.f0, .int .i64 ho.f1, .int .i64 fi.f0, .int .i64 fi.f1, .slice (some ad) l.length c], .bool false, .bool false, .pointer (some ⟨w.heap.size, 4, none⟩), .slice (some ad) l.length c, .int .i64 l.length, .bool false, .bool false, .bool false, .agg #[.int .i64 ho.f0, .int .i64 ho.f1, .int .i64 fi.f0, .int .i64 fi.f1, .slice (some ad) l.length c], .int .i64 0, .bool false, .bool false, undef, .tuple #[.slice Ab (keptOf l).hs.length cb, .int .i64 (bookErr ho fi l)], .agg #[.int .i64 ho.f0, .int .i64 ho.f1, .int .i64 fi.f0, .int .i64 fi.f1, .slice (some ad) l.length c], .tuple #[.slice Ab (keptOf l).hs.length cb, .int .i64 (bookErr ho fi l)], .slice Ab (keptOf l).hs.length cb, .int .i64 (bookErr ho fi l), .agg #[.int .i64 ho.f0, .int .i64 ho.f1, .int .i64 fi.f0, .int .i64 fi.f1, .slice (some ad) l.length c], .slice Ab (keptOf l).hs.length cb, .slice A2 wl.length c2, .agg #[.slice (some ⟨gk, 0, none⟩) l.length c0, .slice (some ⟨gg, 0, none⟩) l.length c1, .slice (some ⟨gr, 0, none⟩) nr c3, .slice A4 n3 c4], .tuple #[.slice (some ⟨gp, 0, none⟩) np cp, .int .i64 0], .agg #[.int .i64 ho.f0, .int .i64 ho.f1, .int .i64 fi.f0, .int .i64 fi.f1, .slice (some ad) l.length c], .tuple #[.slice (some ⟨gp, 0, none⟩) np cp, .int .i64 0], .slice (some ⟨gp, 0, none⟩) np cp, .int .i64 0, .int .i64 0, .bool false, .int .i64 i, .pointer (some ⟨w.heap.size, 4, none⟩), .slice (some ad) l.length c, .int .i64 l.length, .bool true, u53, u54, u55, u56, u57, u58, u59, u60, u61, u62, u63, u64, u65, u66, u67, .bool false, u69, u70, u71, u72, u73, u74, u75, u76, u77, u78, u79, u80, u81, u82, u83, u84, u85, u86, u87, u88, u89, u90, u91, u92, u93, u94, u95, u96, u97, u98, u99, u100, u101, u102, u103, u104, u105, u106, u107, u108, u109, u110, u111, u112, u113, u114, u115, u116, u117, u118, u119, u120, u121, u122, u123, u124, u125, u126, u127, u128, u129, u130, u131, u132, u133, u134, u135, u136, u137, u138, u139, u140, u141, u142, u143, u144, u145, u146, u147, u148, u149, u150, u151, u152, u153, u154, u155, u156, u157, u158, u159, u160, u161, u162, u163, u164, .pointer (some ⟨w.heap.size, 4, none⟩), .slice (some ad) l.length c, .int .i64 i, .pointer (some (ad.add (i * 11))), .pointer (some ⟨(ad.add (i * 11)).block, (ad.add (i * 11)).off + 1, none⟩), .int .u8 x.f1, .bool true, .pointer (some ⟨w.heap.size, 4, none⟩), .slice (some ad) l.length c, .int .i64 i, .pointer (some (ad.add (i * 11))), .pointer (some ⟨(ad.add (i * 11)).block, (ad.add (i * 11)).off + 2, none⟩), .int .i64 jh, .int .i64 sg, .pointer (some ⟨BT, 1, none⟩), .slice (some ⟨gg, 0, none⟩) l.length c1, .int .i64 i, .pointer (some ⟨gg, i, none⟩), .int .i64 gl, .int .i64 (wrap64 (sg + gl)), .int .i64 sr, .pointer (some ⟨BT, 0, none⟩), .slice (some ⟨gk, 0, none⟩) l.length c0, .int .i64 ((i : Int)), .pointer (some ⟨gk, i, none⟩), .int .i64 kl, .pointer (some ⟨BT, 2, none⟩), .slice (some ⟨gr, 0, none⟩) nr c3, .int .i64 ((jh : Int)), .pointer (some ⟨gr, jh, none⟩), .int .i64 rv, .int .i64 (IntKind.i64.wrap (kl * rv)), .int .i64 (IntKind.i64.wrap (sr + (IntKind.i64.wrap (kl * rv)))), u198, u199, u200, u201, u202, u203, u204, u205, u206, u207, u208, u209, u210, u211, undef, undef, undef, undef, undef, undef, undef], defers := [] }
            mixed (by kernel_rfl) rfl (Ahead.of3 185 198 rfl rfl (by kernel_rfl) rfl rfl) ?_ (AllFlow.ops rfl ?_) rfl ?_
          · exact ⟨t0, t1, t2, r0, r1, r2, (Below.refl _ _).drew⟩
          · refine ⟨?_, ?_, ?_, ?_, ?_, ?_, ?_, ?_, ?_, ?_, ?_, ?_, ?_, trivial⟩
            · exact .val 185 _ rfl rfl fun V ⟨t0, t1, t2, x0, x1, x2, hB_⟩ => by go_simp
            · exact .val 186 _ rfl rfl fun V ⟨t0, t1, t2, x0, x1, x2, hB_⟩ => by go_simp
            · exact .val 187 _ rfl rfl fun V ⟨t0, t1, t2, x0, x1, x2, hB_⟩ => by go_simp
            · exact .val 188 _ rfl rfl fun V ⟨t0, t1, t2, x0, x1, x2, hB_⟩ => by go_simp
            · exact .val 189 _ rfl rfl fun V ⟨t0, t1, t2, x0, x1, x2, hB_⟩ => by go_simp <;> exact fun hh => absurd hh (by omega)
            · exact .val 190 _ rfl rfl fun V ⟨t0, t1, t2, x0, x1, x2, hB_⟩ => by go_simp
            · exact .val 191 _ rfl rfl fun V ⟨t0, t1, t2, x0, x1, x2, hB_⟩ => by go_simp
            · exact .val 192 _ rfl rfl fun V ⟨t0, t1, t2, x0, x1, x2, hB_⟩ => by go_simp
            · exact .val 193 _ rfl rfl fun V ⟨t0, t1, t2, x0, x1, x2, hB_⟩ => by go_simp
            · exact .val 194 _ rfl rfl fun V ⟨t0, t1, t2, x0, x1, x2, hB_⟩ => by go_simp <;> exact fun hh => absurd hh (by omega)
            · exact .val 195 _ rfl rfl fun V ⟨t0, t1, t2, x0, x1, x2, hB_⟩ => by go_simp
            · exact .val 196 _ rfl rfl fun V ⟨t0, t1, t2, x0, x1, x2, hB_⟩ => by go_simp
            · exact .val 197 _ rfl rfl fun V ⟨t0, t1, t2, x0, x1, x2, hB_⟩ => by go_simp
          rintro V ⟨t0, t1, t2, x0, x1, x2, hB_⟩
          have HJ9 := hid (HJ.out.trans (hB_.mono HJ.out.size))
          have hr0 := x0
          have hr1 := x1
          have hr2 := x2
          have ht0 := t0
          have ht1 := t1
          have ht2 := t2
          clear hB_ HJ t0 t1 t2 r0 r1 r2 x0 x1 x2
          have HJ := HJ9
          clear HJ9
          go_upto_region 25 with fail
          obtain ⟨Wc, hWc⟩ : ∃ W, W = V := ⟨_, rfl⟩
          rw [← hWc] at hr0 hr1 hr2 ht0 ht1 ht2 HJ ⊢
          clear hWc
          have t0 := ht0
          have t1 := ht1
          have t2 := ht2
          have r0 := hr0
          have r1 := hr1
          have r2 := hr2
          clear hr0 hr1 hr2 ht0 ht1 ht2
          refine wp_flow [[], [], [1], [], [2, 1, 3], [4, 2, 1, 3], [5, 4, 2, 1, 3], [0, 6, 5, 4, 2, 1, 3], [], [8], [], [9, 8, 10], [11, 9, 8, 10], [7, 0, 6, 5, 4, 2, 1, 3, 12, 11, 9, 8, 10], [13, 7, 0, 6, 5, 4, 2, 1, 3, 12, 11, 9, 8, 10]] 14
            (fun V => V.cell? ⟨BT, 0, none⟩ = some (.slice (some ⟨gk, 0, none⟩) l.length c0) ∧ V.cell? ⟨BT, 1, none⟩ = some (.slice (some ⟨gg, 0, none⟩) l.length c1) ∧ V.cell? ⟨BT, 2, none⟩ = some (.slice (some ⟨gr, 0, none⟩) nr c3) ∧ V.cell? ⟨gk, i, none⟩ = some (.int .i64 kl) ∧ V.cell? ⟨gg, i, none⟩ = some (.int .i64 gl) ∧ V.cell? ⟨gr, jh, none⟩ = some (.int .i64 rv) ∧ Below Wc.heap.size Wc V)
            { tmps := #[.agg #[.int .i64 ho.f0, .int .i64 ho.f1, .int .i64 fi.f0, .int .i64 fi.f1, .slice (some ad) l.length c], .slice A2 wl.length c2, .pointer (some ⟨w.heap.size, 0, none⟩), undef, u4, .slice Ab (keptOf l).hs.length cb, .int .i64 (bookErr ho fi l), .pointer (some ⟨BT, 0, none⟩), .slice (some ⟨gp, 0, none⟩) np cp, .int .i64 0, .int .i64 sn, .int .i64 (wrap64 (sg + gl)), .int .i64 (wrap64 (sr + wrap64 (kl * rv))), .int .i64 sc, .int .i64 i, u15, u16, .int .i64 jh, .agg #[.int .i64 ho.f0, .int .i64 ho.f1, .int .i64 fi.f0, .int .i64 fi.f1, .slice (some ad) l.length c], .bool false, .bool false, .pointer (some ⟨w.heap.size, 4, none⟩), .slice (some ad) l.length c, .int .i64 l.length, .bool false, .bool false, .bool false, .agg #[.int .i64 ho.f0, .int .i64 ho.f1, .int .i64 fi.f0, .int .i64 fi.f1, .slice (some ad) l.length c], .int .i64 0, .bool false, .bool false, undef, .tuple #[.slice Ab (keptOf l).hs.length cb, .int .i64 (bookErr ho fi l)], .agg #[.int .i64 ho.f0, .int .i64 ho.f1, .int .i64 fi.f0, .int .i64 fi.f1, .slice (some ad) l.length c], .tuple #[.slice Ab (keptOf l).hs.length cb, .int .i64 (bookErr ho fi l)], .slice Ab (keptOf l).hs.length cb, .int .i64 (bookErr ho fi l), .agg #[.int .i64 ho.f0, .int .i64 ho.f1, .int .i64 fi.f0, .int .i64 fi.f1, .slice (some ad) l.length c], .slice Ab (keptOf l).hs.length cb, .slice A2 wl.length c2, .agg #[.slice (some ⟨gk, 0, none⟩) l.length c0, .slice (some ⟨gg, 0, none⟩) l.length c1, .slice (some ⟨gr, 0, none⟩) nr c3, .slice A4 n3 c4], .tuple #[.slice (some ⟨gp, 0, none⟩) np cp, .int .i64 0], .agg #[.int .i64 ho.f0, .int .i64 ho.f1, .int .i64 fi.f0, .int .i64 fi.f1, .slice (some ad) l.length c], .tuple #[.slice (some ⟨gp, 0, none⟩) np cp, .int .i64 0], .slice (some ⟨gp, 0, none⟩) np cp, .int .i64 0, .int .i64 0, .bool false, .int .i64 i, .pointer (some ⟨w.heap.size, 4, none⟩), .slice (some ad) l.length c, .int .i64 l.length, .bool true, u53, u54, u55, u56, u57, u58, u59, u60, u61, u62, u63, u64, u65, u66, u67, .bool false, u69, u70, u71, u72, u73, u74, u75, u76, u77, u78, u79, u80, u81, u82, u83, u84, u85, u86, u87, u88, u89, u90, u91, u92, u93, u94, u95, u96, u97, u98, u99, u100, u101, u102, u103, u104, u105, u106, u107, u108, u109, u110, u111, u112, u113, u114, u115, u116, u117, u118, u119, u120, u121, u122, u123, u124, u125, u126, u127, u128, u129, u130, u131, u132, u133, u134, u135, u136, u137, u138, u139, u140, u141, u142, u143, u144, u145, u146, u147, u148, u149, u150, u151, u152, u153, u154, u155, u156, u157, u158, u159, u160, u161, u162, u163, u164, .pointer (some ⟨w.heap.size, 4, none⟩), .slice (some ad) l.length c, .int .i64 i, .pointer (some (ad.add (i * 11))), .pointer (some ⟨(ad.add (i * 11)).block, (ad.add (i * 11)).off + 1, none⟩), .int .u8 x.f1, .bool true, .pointer (some ⟨w.heap.size, 4, none⟩), .slice (some ad) l.length c, .int .i64 i, .pointer (some (ad.add (i * 11))), .pointer (some ⟨(ad.add (i * 11)).block, (ad.add (i * 11)).off + 2, none⟩), .int .i64 jh, .int .i64 sg, .pointer (some ⟨BT, 1, none⟩), .slice (some ⟨gg, 0, none⟩) l.length c1, .int .i64 i, .pointer (some ⟨gg, i, none⟩), .int .i64 gl, .int .i64 (wrap64 (sg + gl)), .int .i64 sr, .pointer (some ⟨BT, 0, none⟩), .slice (some ⟨gk, 0, none⟩) l.length c0, .int .i64 i, .pointer (some ⟨gk, i, none⟩), .int .i64 kl, .pointer (some ⟨BT, 2, none⟩), .slice (some ⟨gr, 0, none⟩) nr c3, .int .i64 jh, .pointer (some ⟨gr, jh, none⟩), .int .i64 rv, .int .i64 (wrap64 (kl * rv)), .int .i64 (wrap64 (sr + wrap64 (kl * rv))), .int .i64 sc, .pointer (some ⟨BT, 0, none⟩), .slice (some ⟨gk, 0, none⟩) l.length c0, .int .i64 ((i : Int)), .pointer (some ⟨gk, i, none⟩), .int .i64 kl, .int .i64 (IntKind.i64.wrap (1000 * kl)), .int .i64 (IntKind.i64.wrap (sc + (IntKind.i64.wrap (1000 * kl)))), .pointer (some ⟨BT, 1, none⟩), .slice (some ⟨gg, 0, none⟩) l.length c1, .int .i64 ((i : Int)), .pointer (some ⟨gg, i, none⟩), .int .i64 gl, .int .i64 (IntKind.i64.wrap ((IntKind.i64.wrap (sc + (IntKind.i64.wrap (1000 * kl)))) - gl)), undef, undef, undef, undef, undef, undef, undef], defers := [] }
            mixed (by kernel_rfl) rfl (Ahead.of3 198 212 rfl rfl (by kernel_rfl) rfl rfl) ?_ (AllFlow.ops rfl ?_) rfl ?_
          · exact ⟨t0, t1, t2, r0, r1, r2, (Below.refl _ _).drew⟩
          · refine ⟨?_, ?_, ?_, ?_, ?_, ?_, ?_, ?_, ?_, ?_, ?_, ?_, ?_, ?_, trivial⟩
            · exact .val 198 _ rfl rfl fun V ⟨t0, t1, t2, x0, x1, x2, hB_⟩ => by go_simp
            · exact .val 199 _ rfl rfl fun V ⟨t0, t1, t2, x0, x1, x2, hB_⟩ => by go_simp
            · exact .val 200 _ rfl rfl fun V ⟨t0, t1, t2, x0, x1, x2, hB_⟩ => by go_simp
            · exact .val 201 _ rfl rfl fun V ⟨t0, t1, t2, x0, x1, x2, hB_⟩ => by go_simp
            · exact .val 202 _ rfl rfl fun V ⟨t0, t1, t2, x0, x1, x2, hB_⟩ => by go_simp <;> exact fun hh => absurd hh (by omega)
            · exact .val 203 _ rfl rfl fun V ⟨t0, t1, t2, x0, x1, x2, hB_⟩ => by go_simp
            · exact .val 204 _ rfl rfl fun V ⟨t0, t1, t2, x0, x1, x2, hB_⟩ => by go_simp
            · exact .val 205 _ rfl rfl fun V ⟨t0, t1, t2, x0, x1, x2, hB_⟩ => by go_simp
            · exact .val 206 _ rfl rfl fun V ⟨t0, t1, t2, x0, x1, x2, hB_⟩ => by go_simp
            · exact .val 207 _ rfl rfl fun V ⟨t0, t1, t2, x0, x1, x2, hB_⟩ => by go_simp
            · exact .val 208 _ rfl rfl fun V ⟨t0, t1, t2, x0, x1, x2, hB_⟩ => by go_simp
            · exact .val 209 _ rfl rfl fun V ⟨t0, t1, t2, x0, x1, x2, hB_⟩ => by go_simp <;> exact fun hh => absurd hh (by omega)
            · exact .val 210 _ rfl rfl fun V ⟨t0, t1, t2, x0, x1, x2, hB_⟩ => by go_simp
            · exact .val 211 _ rfl rfl fun V ⟨t0, t1, t2, x0, x1, x2, hB_⟩ => by go_simp
          rintro V ⟨t0, t1, t2, x0, x1, x2, hB_⟩
          have HJ9 := hid (HJ.out.trans (hB_.mono HJ.out.size))
          have hr0 := x0
          have hr1 := x1
          have hr2 := x2
          have ht0 := t0
          have ht1 := t1
          have ht2 := t2
          clear hB_ HJ t0 t1 t2 r0 r1 r2 x0 x1 x2
          have HJ := HJ9
          clear HJ9
          clear hr0 hr1 hr2 ht0 ht1 ht2
          have hl2 := HL.out
          go_wp2
          go_roundw
          case rel => exact ⟨i + 1, by have := HLE.out; omega, by have := HLE.out; have := HL.out; go_num, _, _, _, _, rfl, rfl, rfl, rfl, hid ⟨HJ.out, fun h => HSN.out, fun h => by have := HLT.out; omega⟩⟩
          case measure => have := HLE.out; simp [intOf]; omega
    · obtain rfl : i = l.length + 1 := by omega
      have hle2 : ¬ ((l.length + 1 : Nat) : Int) ≤ (l.length : Int) := by omega
      have hnn : sn = (np : Int) := HX.out.2.2 rfl
      subst hnn
      have HBZ := hid (And.intro (HB5.out.1.trans (HX.out.1.mono HB5.out.1.size)) hbk)
      have b1 : ((np : Int) == (np : Int)) = true := by simp
      clear hbk HX hle
      go_wp2_with fail
      refine (sums_any _).mono ?_
      rintro e WS ⟨rfl, hb⟩
      have H3 := hid (HBZ.out.1.trans (hb.mono HBZ.out.1.size))
      clear hb
      go_wp2
      go_ret
      exact ⟨rfl, H3.out⟩
end Go.Proofs.Ytbmkbokkmmdjdaa
end
