-- E4 (wip/pack9.py)
import Derived.Test.YtbmkbokkmmdjdaaGreatY32
import Derived.Test.YtbmkbokkmmdjdaaGreatY33
import Derived.Test.YtbmkbokkmmdjdaaGreatY18
section
namespace Go.Proofs.YtbmkbokkmmdjdaaGreat
open Go.RowKit Go.Proofs.YtbmkbokkmmdjdaaGreatW.PrintWords Go.Proofs.YtbmkbokkmmdjdaaGreatW.PrintLast Go.Proofs.YtbmkbokkmmdjdaaGreatW.PrintMore
open Q Go.Shelf
attribute [local go_sem] Oper.semAt_some wide_depth wide_fn
set_option linter.unusedVariables false
set_option linter.unusedSimpArgs false

theorem wrong_none {ho fi : S23} {l : List S93} (h : ∀ a ∈ accs (keptOf l).hs.length, wrongS (forwardL ho fi a.1 (chgL l a)) < 0) : wrongAll ho fi l = ((l.length : Int), 0, 0) := by
  unfold wrongAll
  generalize accs (keptOf l).hs.length = K at *
  generalize ((l.length : Int), (0 : Int), (0 : Int)) = p
  induction K generalizing p with
  | nil => rfl
  | cons a K ih =>
    rw [List.foldl_cons, show wStep ho fi l p a = p by unfold wStep; rw [if_neg (fun e => by have := h a (by simp); omega)]]
    exact ih (fun x hx => h x (by simp [hx])) p
theorem acc_i (n i : Nat) (hi : i < 2 + n) : (mn (i : Int) 2, mx ((i : Int) - 2) 0) ∈ accs n := by
  rw [← accs_at hi (by rw [accs_len]; exact hi)]
  exact List.getElem_mem _
theorem amount_story {ho fi : S23} {l : List S93} (hv : bookErr ho fi l = 0) {k h : Int} (ha : (k, h) ∈ accs (keptOf l).hs.length) (hk : k ≤ 2) {j : Nat} (hj : j ≤ l.length) (hw : wrongS (forwardL ho fi k (chgL l (k, h))) < 0) : amountV ho fi l k h j = ((bothL ho fi k (chgL l (k, h))).getD j z23, 0) := by
  unfold amountV
  rw [if_neg (by simpa using hv)]
  have h1 : ¬ (2 < k ∨ betw (j : Int) 0 l.length = false) := by unfold betw; simp; omega
  rw [if_neg h1]
  have h2 : ¬ (k, h) ∉ accs (keptOf l).hs.length := fun e => e ha
  rw [if_neg h2, if_neg (by omega)]
  rfl
set_option maxRecDepth 100000 in
set_option maxHeartbeats 8000000 in
set_option pp.deepTerms true in
set_option pp.maxSteps 1000000 in
theorem LedgerTrue_any (ho fi : S23) (A : Option Addr) (c : Nat) (l : List S93) (A2 : Option Addr) (c2 : Nat) (wl : List S98) (first acct hp : Int) (w : World) (hr : Kd.C k93 w A l.length l) (hc : l.length ≤ c) (hr2 : Kd.C k98 w A2 wl.length wl) (hc2 : wl.length ≤ c2) :
    Calls Tryz.prog 5 #[.agg #[.int .i64 ho.f0, .int .i64 ho.f1, .int .i64 fi.f0, .int .i64 fi.f1, .slice A l.length c], .slice A2 wl.length c2, .int .i64 first, .int .i64 acct, .int .i64 hp] w (RetBool true w) := by
  have hu := Tryz.underlying23
  have hu1 := Tryz.underlying26
  have hu2 := Tryz.underlying47
  have hu7 := Tryz.underlying45
  have hbel := (Below.refl w.heap.size w).alloc (Nat.le_refl _) (.cells #[.int .i64 ho.f0, .int .i64 ho.f1, .int .i64 fi.f0, .int .i64 fi.f1, .slice A l.length c] 26)
  have e0 := World.alloc_heap_new w (.cells #[.int .i64 ho.f0, .int .i64 ho.f1, .int .i64 fi.f0, .int .i64 fi.f1, .slice A l.length c] 26)
  have HR := hid hr
  have HC := hid hc
  have HR2 := hid (And.intro hr2 hc2)
  clear hr hc hr2 hc2
  go_enter Tryz.func5, Tryz.ntmps5
  go_wp2_with fail
  generalize w.alloc (.cells #[.int .i64 ho.f0, .int .i64 ho.f1, .int .i64 fi.f0, .int .i64 fi.f1, .slice A l.length c] 26) = W1 at *
  refine (thick_any ho fi A c l _ (Kd.C_below HR.out hbel) HC.out).mono ?_
  rintro e W2 ⟨rfl, hb⟩
  have HBZ := hid (And.intro (hbel.trans (hb.mono hbel.size)) (heap_grow e0 hb))
  clear hbel hb e0
  have y0 := blkCell HBZ.out.2 0
  have y1 := blkCell HBZ.out.2 1
  have y2 := blkCell HBZ.out.2 2
  have y3 := blkCell HBZ.out.2 3
  have y4 := blkCell HBZ.out.2 4
  simp at y0 y1 y2 y3 y4
  cases thickB l with
  | true =>
    go_wp2_with fail
    refine (sums_any _).mono ?_
    rintro e WS ⟨rfl, hb⟩
    have H3 := hid (HBZ.out.1.trans (hb.mono HBZ.out.1.size))
    clear hb
    go_wp2
    go_ret
    exact ⟨rfl, H3.out⟩
  | false =>
  by_cases h40 : 40 < l.length
  · have d0 : decide ((40 : Int) < (l.length : Int)) = true := decide_eq_true (by omega)
    have d1 : decide (40 < l.length) = true := decide_eq_true h40
    go_wp2_with fail
    refine (sums_any _).mono ?_
    rintro e WS ⟨rfl, hb⟩
    have H3 := hid (HBZ.out.1.trans (hb.mono HBZ.out.1.size))
    clear hb
    go_wp2
    go_ret
    exact ⟨rfl, H3.out⟩
  have d0 : decide ((40 : Int) < (l.length : Int)) = false := decide_eq_false (by omega)
  have d1 : decide (40 < l.length) = false := decide_eq_false h40
  have HL := hid (show l.length ≤ 40 by omega)
  clear h40
  go_wp2_with fail
  refine (Heaps_any ho fi A c l _ (Kd.C_below HR.out HBZ.out.1) HC.out).mono ?_
  rintro e WA ⟨v, rfl, hra, hb⟩
  obtain ⟨Aa, ca, rfl⟩ := own_slice hra
  have HBZ' := hid (And.intro (HBZ.out.1.trans (hb.mono HBZ.out.1.size)) (heap_grow HBZ.out.2 hb))
  clear HBZ
  have HBZ := HBZ'
  clear HBZ'
  clear hb hra y0 y1 y2 y3 y4 d0 d1
  have y0 := blkCell HBZ.out.2 0
  have y1 := blkCell HBZ.out.2 1
  have y2 := blkCell HBZ.out.2 2
  have y3 := blkCell HBZ.out.2 3
  have y4 := blkCell HBZ.out.2 4
  simp at y0 y1 y2 y3 y4
  by_cases hv : bookErr ho fi l = 0
  rotate_left
  · obtain ⟨er, her⟩ : ∃ er, bookErr ho fi l = er := ⟨_, rfl⟩
    have HER := hid her
    rw [her] at hv
    rw [her]
    have d0 : (er != 0) = true := by simpa using hv
    clear her hv
    go_wp2_with fail
    have hck := checkR_any ho fi A c l _ (Kd.C_below HR.out HBZ.out.1) HC.out
    rw [HER.out] at hck
    have HCK := hid hck
    clear hck
    refine HCK.out.mono ?_
    rintro e WB ⟨rfl, hb⟩
    have HBZ' := hid (And.intro (HBZ.out.1.trans (hb.mono HBZ.out.1.size)) (heap_grow HBZ.out.2 hb))
    clear HBZ
    have HBZ := HBZ'
    clear HBZ'
    clear hb y0 y1 y2 y3 y4
    go_wp2_with fail
    refine (sums_any _).mono ?_
    rintro e WS ⟨rfl, hb⟩
    have H3 := hid (HBZ.out.1.trans (hb.mono HBZ.out.1.size))
    clear hb
    go_wp2
    go_ret
    exact ⟨rfl, H3.out⟩
  have HV := hid hv
  have hbe : (bookErr ho fi l != 0) = false := by simpa using hv
  have hhs : heapsOf ho fi l = (keptOf l).hs := by unfold heapsOf; rw [if_pos hv]
  have HHS := hid hhs
  rw [hhs]
  clear hv hhs
  go_wp2_with fail
  have hck := checkR_any ho fi A c l _ (Kd.C_below HR.out HBZ.out.1) HC.out
  rw [HV.out] at hck
  have HCK := hid hck
  clear hck
  refine HCK.out.mono ?_
  rintro e WB ⟨rfl, hb⟩
  have HBZ' := hid (And.intro (HBZ.out.1.trans (hb.mono HBZ.out.1.size)) (heap_grow HBZ.out.2 hb))
  clear HBZ
  have HBZ := HBZ'
  clear HBZ'
  clear hb HCK y0 y1 y2 y3 y4
  have y0 := blkCell HBZ.out.2 0
  have y1 := blkCell HBZ.out.2 1
  have y2 := blkCell HBZ.out.2 2
  have y3 := blkCell HBZ.out.2 3
  have y4 := blkCell HBZ.out.2 4
  simp at y0 y1 y2 y3 y4
  have d0 : ((0 : Int) != 0) = false := by decide
  go_wp2_with fail
  refine (HeapsR_any ho fi A c l _ (Kd.C_below HR.out HBZ.out.1) HC.out).mono ?_
  rintro e WC ⟨v, rfl, hrb, hb⟩
  obtain ⟨Ab, cb, rfl⟩ := own_slice hrb
  have HBZ' := hid (And.intro (HBZ.out.1.trans (hb.mono HBZ.out.1.size)) (heap_grow HBZ.out.2 hb))
  clear HBZ
  have HBZ := HBZ'
  clear HBZ'
  rw [HHS.out] at hrb
  have HRH := hid (own_lower (Nat.zero_le _) hrb)
  rw [HHS.out]
  clear hb hrb y0 y1 y2 y3 y4
  have y0 := blkCell HBZ.out.2 0
  have y1 := blkCell HBZ.out.2 1
  have y2 := blkCell HBZ.out.2 2
  have y3 := blkCell HBZ.out.2 3
  have y4 := blkCell HBZ.out.2 4
  simp at y0 y1 y2 y3 y4
  have hnn : ((keptOf l).hs.length != (keptOf l).hs.length) = false := by simp
  have htd := told_any ho fi A c l (.slice Ab (keptOf l).hs.length cb) A2 c2 wl WC (Kd.C_below HR.out HBZ.out.1) HC.out HV.out HRH.out (Kd.C_below HR2.out.1 HBZ.out.1) HR2.out.2
  have HTD := hid htd
  clear htd hnn
  go_wp2_with fail
  refine HTD.out.mono ?_
  rintro e WD ⟨v, rfl, hri, hb⟩
  obtain ⟨A0, c0, hv0⟩ := own_slice (hri.row 0 (by decide))
  obtain ⟨A1, c1, hv1⟩ := own_slice (hri.row 1 (by decide))
  obtain ⟨A3, c3, hv2⟩ := own_slice (hri.row 2 (by decide))
  obtain ⟨A4, c4, hv3⟩ := own_slice (hri.row 3 (by decide))
  generalize (Lf (toldK (keptOf l).hs wl l l.length) 0).length = n0 at hv0
  generalize (Lf (toldK (keptOf l).hs wl l l.length) 1).length = n1 at hv1
  generalize (Lf (toldK (keptOf l).hs wl l l.length) 2).length = n2 at hv2
  generalize (Lf (toldK (keptOf l).hs wl l l.length) 3).length = n3 at hv3
  rw [hv0, hv1, hv2, hv3]
  have HVV := hid (And.intro hv0 (And.intro hv1 (And.intro hv2 hv3)))
  clear hv0 hv1 hv2 hv3
  have hg := (Below.refl WD.heap.size WD).alloc (Nat.le_refl _) (.cells #[.slice A0 n0 c0, .slice A1 n1 c1, .slice A3 n2 c3, .slice A4 n3 c4] 47)
  have HBX := hid (And.intro ((HBZ.out.1.trans (hb.mono HBZ.out.1.size)).trans (hg.mono (HBZ.out.1.trans (hb.mono HBZ.out.1.size)).size)) (heap_grow (heap_grow HBZ.out.2 hb) hg))
  have HTB := hid (World.alloc_heap_new WD (.cells #[.slice A0 n0 c0, .slice A1 n1 c1, .slice A3 n2 c3, .slice A4 n3 c4] 47))
  have HRI := hid (hri.grow hg)
  have HTL := hid (told_len (keptOf l).hs wl l l.length (Nat.le_refl _))
  clear hb hri hg HBZ HRH HTD y0 y1 y2 y3 y4
  go_upto_region 10 with fail
  generalize WD.alloc (.cells #[.slice A0 n0 c0, .slice A1 n1 c1, .slice A3 n2 c3, .slice A4 n3 c4] 47) = W4 at *
  generalize WD.heap.size = B15 at *
  have HBZ := HBX
  clear HBX
  have y0 := blkCell HBZ.out.2 0
  have y1 := blkCell HBZ.out.2 1
  have y2 := blkCell HBZ.out.2 2
  have y3 := blkCell HBZ.out.2 3
  have y4 := blkCell HBZ.out.2 4
  simp at y0 y1 y2 y3 y4
  have hsf := span_of (bookOk_of HV.out).fok
  have hpk := picked_any first (s := fi) hsf.1 hsf.2.1 (by omega) W4
  obtain ⟨wh, hwh⟩ : ∃ q, pickS first fi = q := ⟨_, rfl⟩
  have HWH := hid (show fi.f0 ≤ wh ∧ wh ≤ fi.f1 by rw [← hwh]; exact pick_in first hsf.2.1)
  rw [hwh] at hpk
  have HPK := hid hpk
  clear hpk hwh hsf
  go_wp2_with fail
  refine HPK.out.mono ?_
  rintro e W5 ⟨rfl, hb⟩
  have HBX := hid (And.intro (HBZ.out.1.trans (hb.mono HBZ.out.1.size)) (heap_grow HBZ.out.2 hb))
  have HTB5 := hid (heap_grow HTB.out hb)
  have HRI5 := hid (HRI.out.grow hb)
  clear hb HBZ HTB HRI HPK y0 y1 y2 y3 y4
  have HB0 := hid (Below.refl W5.heap.size W5)
  obtain ⟨nh, hnh⟩ : ∃ nh, (keptOf l).hs.length = nh := ⟨_, rfl⟩
  have HNH := hid hnh
  have HN := hid (show nh ≤ 256 by have := kept_len l l.length (Nat.le_refl _); rw [List.take_length] at this; have := HL.out; omega)
  rw [hnh]
  clear hnh
  obtain ⟨ts, hts⟩ : ∃ q, toldK (keptOf l).hs wl l l.length = q := ⟨_, rfl⟩
  rw [hts] at HRI5 HTL
  have HTS := hid hts
  clear hts
  have hwn : wrap64 (2 + (nh : Int)) = 2 + (nh : Int) := wrap64_id (by omega) (by have := HN.out; omega)
  go_wp2_with fail
  go_loopw [17, 18] (fun v17 v18 X => ∃ i : Nat, i ≤ 2 + nh ∧ v18 = .int .i64 i ∧ ∃ al : Bool, v17 = .bool al ∧ Hid (Below W5.heap.size W5 X ∧ (al = true → ∀ k : Nat, k < i → wrongS (forwardL ho fi (mn (k : Int) 2) (chgL l (mn (k : Int) 2, mx ((k : Int) - 2) 0))) < 0))) (fun v17 v18 _ => 2 + nh - (intOf v18).toNat)
  case atStart => exact ⟨0, by omega, rfl, true, rfl, hid ⟨HB0.out, fun _ k hk => absurd hk (by omega)⟩⟩
  case round =>
    obtain ⟨i, hi, rfl, al, rfl, HX⟩ := hrel
    rename World => Wk
    by_cases hlt : i < 2 + nh
    · have hil : (i : Int) < 2 + (nh : Int) := by omega
      have HLT := hid hlt
      obtain ⟨a, hka⟩ : ∃ a : Int × Int, (mn (i : Int) 2, mx ((i : Int) - 2) 0) = a := ⟨_, rfl⟩
      have HKA := hid hka
      have HAV := hid (show (a.1 = 0 ∧ a.2 = 0) ∨ (a.1 = 1 ∧ a.2 = 0) ∨ a.1 = 2 by
        rw [← hka]
        simp only [mn, mx]
        have : i = 0 ∨ i = 1 ∨ 2 ≤ i := by omega
        rcases this with rfl | rfl | h2
        · left; decide
        · right; left; decide
        · right; right; split <;> omega)
      have HMA := hid (show (a.1, a.2) ∈ accs (keptOf l).hs.length by
        rw [HNH.out, show (a.1, a.2) = a from rfl, ← hka]
        exact acc_i nh i hlt)
      clear hka
      have hd2 : decide ((i : Int) < 2 + (nh : Int)) = true := decide_eq_true hil
      go_upto_region 15 with fail
      go_cut [19, 20] from 85 to 90 (fun v19 v20 wc => v19 = .int .u8 a.1 ∧ v20 = .int .i64 a.2 ∧ Hid (Below Wk.heap.size Wk wc))
      case first =>
        have h1 : a.1 = mn (i : Int) 2 := by rw [← HKA.out]
        have h2 : a.2 = mx ((i : Int) - 2) 0 := by rw [← HKA.out]
        have hb1 : IntKind.u8.wrap (if 2 < (i : Int) then 2 else (i : Int)) = a.1 := by
          rw [h1]; unfold mn
          exact wrap8_in (by split <;> omega)
        have hb2 : wrap64 ((i : Int) - 2) = (i : Int) - 2 := wrap64_id (by omega) (by have := HN.out; omega)
        have hb3 : (if (i : Int) - 2 < 0 then 0 else (i : Int) - 2) = a.2 := by rw [h2]; rfl
        clear h1 h2 hwn
        go_wp2
        all_goals
          go_meet
          case rel => exact ⟨rfl, rfl, hid (Below.refl _ _)⟩
      case rest =>
      obtain ⟨rfl, rfl, hcb⟩ := hcut
      have HXa := hid (HX.out.1.trans (hcb.out.mono HX.out.1.size))
      have HAL := hid HX.out.2
      clear HX hcb
      clear Wk
      rename World => Wk
      have hbx := heap_grow HBX.out.2 HXa.out
      have hbt := heap_grow HTB5.out HXa.out
      have y0 := blkCell hbx 0
      have y1 := blkCell hbx 1
      have y2 := blkCell hbx 2
      have y3 := blkCell hbx 3
      have y4 := blkCell hbx 4
      have t0 := blkCell hbt 0
      have t1 := blkCell hbt 1
      have t2 := blkCell hbt 2
      have t3 := blkCell hbt 3
      simp at y0 y1 y2 y3 y4 t0 t1 t2 t3
      have hri := HRI5.out.grow HXa.out
      have hk0 := hri.row 0 (by decide)
      have hk1 := hri.row 1 (by decide)
      have e0 : Lf ts 0 = ts.kl := rfl
      have e1 : Lf ts 1 = ts.gl := rfl
      rw [e0, HTL.out.1] at hk0
      rw [e1, HTL.out.2.1] at hk1
      have ham := amounts_any ho fi A c l ts (v 0) (v 1) (v 2) (v 3) wh a.1 a.2 Wk (Kd.C_below HR.out (HBX.out.1.trans (HXa.out.mono HBX.out.1.size))) HC.out (by have := HL.out; omega) HTL.out.1 HTL.out.2.1 (own_lower (Nat.zero_le _) hk0) (own_lower (Nat.zero_le _) hk1) HAV.out
      rw [HVV.out.1, HVV.out.2.1, HVV.out.2.2.1, HVV.out.2.2.2] at ham
      have HAM := hid ham
      clear ham hri hk0 hk1 e0 e1
      go_wp2_with fail
      refine HAM.out.mono ?_
      rintro e W6 ⟨va, rfl, hrow, hb⟩
      obtain ⟨gt, ct, hva, hct⟩ : ∃ gt ct, va = .slice (some ⟨gt, 0, none⟩) (l.length + 1) ct ∧ l.length + 1 ≤ ct := by
        rcases hrow.2 with ⟨h1, h2⟩ | ⟨g1, c1, u1, h1, _, _, h4, _⟩
        · omega
        · exact ⟨g1, c1, h1, h4⟩
      subst hva
      have HX6 := hid (HXa.out.trans (hb.mono HXa.out.size))
      have HRW := hid (own_lower (Nat.zero_le _) hrow)
      have HCT := hid hct
      have hbx6 := heap_grow hbx hb
      clear hrow hct HAM y0 y1 y2 y3 y4 t0 t1 t2 t3 hb hbx hbt HXa
      have y0 := blkCell hbx6 0
      have y1 := blkCell hbx6 1
      have y2 := blkCell hbx6 2
      have y3 := blkCell hbx6 3
      have y4 := blkCell hbx6 4
      simp at y0 y1 y2 y3 y4
      have hLl : (amtL wh ts l a.1 a.2).length = l.length + 1 := by simp [amtL]
      have hkp := keeps_any (ho := ho) (fi := fi) A c l a.1 (some ⟨gt, 0, none⟩) ct (amtL wh ts l a.1 a.2) W6 (Kd.C_below HR.out (HBX.out.1.trans (HX6.out.mono HBX.out.1.size))) HC.out (by rw [hLl]; exact own_KdI HRW.out hLl) (by rw [hLl]; exact HCT.out) (by rw [hLl]; have := HL.out; omega) (span_of (bookOk_of HV.out).hok)
      rw [hLl] at hkp
      obtain ⟨kb, hkb⟩ : ∃ b, (amtL wh ts l a.1 a.2).all (keepsB ho a.1) = b := ⟨_, rfl⟩
      rw [hkb] at hkp
      have HKP := hid hkp
      have HKB := hid hkb
      clear hkp hkb hLl
      go_wp2_with fail
      refine HKP.out.mono ?_
      rintro e W7 ⟨rfl, hb⟩
      have HX7 := hid (HX6.out.trans (hb.mono HX6.out.size))
      have HRW7 := hid (rings_set HRW.out hb)
      clear hb HX6 HRW HKP hbx6 y0 y1 y2 y3 y4
      have hn2 := HN.out
      have hi2 := HLT.out
      cases kb with
      | false =>
        go_wp2
        go_roundw
        case rel => exact ⟨i + 1, by have := HLT.out; omega, by go_num, false, rfl, hid ⟨HX7.out, fun h => by cases h⟩⟩
        case measure => have := HLT.out; simp [intOf]; omega
      | true =>
      have hkk : ∀ j, j ≤ l.length → keepsB ho a.1 (amtT wh ts l a.1 a.2 j) = true := fun j hj => by
        have h := HKB.out
        rw [List.all_eq_true] at h
        exact h _ (by unfold amtL; exact List.mem_map.2 ⟨j, List.mem_range.2 (by omega), rfl⟩)
      have hst := amt_story HV.out wl (first := wh) (k := a.1) (h := a.2) HWH.out HAV.out (by rw [HTS.out]; exact hkk)
      rw [HTS.out] at hst
      have HST := hid hst
      clear hkk hst hn2 hi2
      have HB7 := hid (Below.refl W7.heap.size W7)
      go_wp2_with fail
      go_loopw [22] (fun v22 X => ∃ j : Nat, j ≤ l.length + 1 ∧ v22 = .int .i64 j ∧ Hid (Below W7.heap.size W7 X)) (fun v22 _ => l.length + 1 - (intOf v22).toNat)
      case atStart => exact ⟨0, by omega, rfl, HB7⟩
      case round =>
        obtain ⟨j, hj, rfl, HJ⟩ := hrel
        rename World => Wj
        by_cases hjl : j ≤ l.length
        · have hj1 : (j : Int) < (l.length : Int) + 1 := by omega
          have hj2 : j < l.length + 1 := by omega
          have HJL := hid hjl
          go_upto_region 22 with fail
          go_cut [119] from 108 to 118 (fun v119 wc => ∃ bq : Bool, v119 = .bool bq ∧ Hid (Below Wj.heap.size Wj wc))
          case first =>
            have hw1 : wrap64 ((l.length : Int) + 1 - 1) = (l.length : Int) := by rw [wrap64_id (by omega) (by have := HL.out; omega)]; omega
            have hw2 : (l.length : Int) + 1 - 1 = (l.length : Int) := by omega
            have hw3 : wrap64 (l.length : Int) = (l.length : Int) := wrap64_id (by omega) (by have := HL.out; omega)
            have hp1 := picked_any acct (s := ⟨0, 1⟩) (by decide) (by decide) (by decide) Wj
            simp only at hp1
            obtain ⟨pa, hpa⟩ : ∃ q, pickS acct ⟨0, 1⟩ = q := ⟨_, rfl⟩
            rw [hpa] at hp1
            have HP1 := hid hp1
            clear hp1 hpa
            go_wp2_with fail
            refine HP1.out.mono ?_
            rintro e Wp ⟨rfl, hb⟩
            have HBp := hid hb
            clear hb HP1
            by_cases h1 : pa = 1
            · have b1 : (pa == 1) = true := by simp [h1]
              have hp2 := picked_any hp (s := ⟨0, (l.length : Int)⟩) (by show (0 : Int) ≤ 0; omega) (by show (0 : Int) ≤ (l.length : Int); omega) (by show (l.length : Int) ≤ 1000000000000; have := HL.out; omega) Wp
              simp only at hp2
              obtain ⟨ph, hph⟩ : ∃ q, pickS hp ⟨0, (l.length : Int)⟩ = q := ⟨_, rfl⟩
              rw [hph] at hp2
              have HP2 := hid hp2
              clear hp2 hph h1
              go_wp2_with fail
              refine HP2.out.mono ?_
              rintro e Wq ⟨rfl, hb⟩
              have HBq := hid (HBp.out.trans (hb.mono HBp.out.size))
              clear hb HP2 HBp
              go_wp2
              go_meet
              case rel => exact ⟨_, rfl, HBq⟩
            · have b1 : (pa == 1) = false := by simp [h1]
              clear h1
              go_wp2
              go_meet
              case rel => exact ⟨_, rfl, HBp⟩
          case rest =>
          obtain ⟨bq, rfl, hcb⟩ := hcut
          have HJ2 := hid (HJ.out.trans (hcb.out.mono HJ.out.size))
          clear HJ hcb
          clear Wj
          rename World => Wj
          have hl2 := HL.out
          cases bq with
          | true =>
            go_wp2
            go_roundw
            case rel => exact ⟨j + 1, by have := HJL.out; omega, by have := HJL.out; go_num, HJ2⟩
            case measure => have := HJL.out; simp [intOf]; omega
          | false =>
          have hbz := HBX.out.1.trans ((HX7.out.trans (HJ2.out.mono HX7.out.size)).mono HBX.out.1.size)
          have hbxj := heap_grow HBX.out.2 (HX7.out.trans (HJ2.out.mono HX7.out.size))
          have y0 := blkCell hbxj 0
          have y1 := blkCell hbxj 1
          have y2 := blkCell hbxj 2
          have y3 := blkCell hbxj 3
          have y4 := blkCell hbxj 4
          simp at y0 y1 y2 y3 y4
          obtain ⟨am, ham⟩ : ∃ q, (bothL ho fi a.1 (chgL l (a.1, a.2))).getD j z23 = q := ⟨_, rfl⟩
          have hst := HST.out.2 j HJL.out
          rw [ham] at hst
          have haa := Amount_any ho fi A c l a.1 a.2 j Wj (Kd.C_below HR.out hbz) HC.out
          rw [amount_story HV.out HMA.out (by have := HAV.out; omega) HJL.out HST.out.1, ham] at haa
          have HAA := hid haa
          have HSJ := hid hst
          clear ham hst haa hbz hbxj hl2
          go_wp2_with fail
          refine HAA.out.mono ?_
          rintro e W8 ⟨rfl, hb⟩
          have hg := (Below.refl W8.heap.size W8).alloc (Nat.le_refl _) (.cells #[.int .i64 am.f0, .int .i64 am.f1] 23)
          have HJ9 := hid ((HJ2.out.trans (hb.mono HJ2.out.size)).trans (hg.mono (HJ2.out.trans (hb.mono HJ2.out.size)).size))
          have H23 := hid (World.alloc_heap_new W8 (.cells #[.int .i64 am.f0, .int .i64 am.f1] 23))
          clear hb hg HJ2 HAA y0 y1 y2 y3 y4
          go_upto_region 24 with fail
          generalize W8.alloc (.cells #[.int .i64 am.f0, .int .i64 am.f1] 23) = W9 at *
          generalize W8.heap.size = B23 at *
          obtain ⟨tj, htj⟩ : ∃ q, amtT wh ts l a.1 a.2 j = q := ⟨_, rfl⟩
          have hsj := HSJ.out
          rw [htj] at hsj
          have r0 : W9.cell? ⟨gt, j, none⟩ = some (.int .i64 tj) := by
            have e := (rings_set HRW7.out HJ9.out).cellAt j (by have := HJL.out; omega)
            rw [cF_at (by simp [amtL]; have := HJL.out; omega)] at e
            rw [show (amtL wh ts l a.1 a.2).getD j 0 = tj by rw [← htj]; unfold amtL; simp [List.getD, List.getElem?_range (show j < l.length + 1 by have := HJL.out; omega)]] at e
            exact e
          have y0 := blkCell H23.out 0
          have y1 := blkCell H23.out 1
          simp at y0 y1
          have dA : decide (tj < am.f0) = false := decide_eq_false (by omega)
          have dB : decide (am.f1 < tj) = false := decide_eq_false (by omega)
          have hj3 : (j : Int) < (l.length : Int) + 1 := by have := HJL.out; omega
          have hj4 : j < l.length + 1 := by have := HJL.out; omega
          clear htj hsj
          refine wp_flow [[], [0], [1, 0], [2, 1, 0], [2, 1, 0], [3, 2, 1, 0, 4], [5, 3, 2, 1, 0, 4], [2, 1, 0], [7, 2, 1, 0], [6, 5, 3, 2, 1, 0, 4, 8, 7], [2, 1, 0, 9, 6, 5, 3, 4, 8, 7], [10, 2, 1, 0, 9, 6, 5, 3, 4, 8, 7], [11, 10, 2, 1, 0, 9, 6, 5, 3, 4, 8, 7], [11, 10, 2, 1, 0, 9, 6, 5, 3, 4, 8, 7], [12, 11, 10, 2, 1, 0, 9, 6, 5, 3, 4, 8, 7, 13], [14, 12, 11, 10, 2, 1, 0, 9, 6, 5, 3, 4, 8, 7, 13], [11, 10, 2, 1, 0, 9, 6, 5, 3, 4, 8, 7], [16, 11, 10, 2, 1, 0, 9, 6, 5, 3, 4, 8, 7], [15, 14, 12, 11, 10, 2, 1, 0, 9, 6, 5, 3, 4, 8, 7, 13, 17, 16], [11, 10, 2, 1, 0, 9, 6, 5, 3, 4, 8, 7, 18, 15, 14, 12, 13, 17, 16]] 20
            (fun V => V.cell? ⟨B23, 0, none⟩ = some (.int .i64 am.f0) ∧ V.cell? ⟨B23, 1, none⟩ = some (.int .i64 am.f1) ∧ V.cell? ⟨gt, j, none⟩ = some (.int .i64 tj) ∧ Below W9.heap.size W9 V)
            { tmps := #[.agg #[.int .i64 ho.f0, .int .i64 ho.f1, .int .i64 fi.f0, .int .i64 fi.f1, .slice A l.length c], .slice A2 wl.length c2, .int .i64 first, .int .i64 acct, .int .i64 hp, .pointer (some ⟨w.heap.size, 0, none⟩), undef, undef, undef, undef, u10, .slice Aa nh ca, .int .i64 (bookErr ho fi l), .slice Ab nh cb, .int .i64 (bookErr ho fi l), .pointer (some ⟨B15, 0, none⟩), .int .i64 wh, .bool al, .int .i64 i, .int .u8 a.fst, .int .i64 a.snd, .slice (some ⟨gt, 0, none⟩) (l.length + 1) ct, .int .i64 ((j : Int)), .pointer (some ⟨B23, 0, none⟩), .int .i64 0, undef, undef, undef, .agg #[.int .i64 ho.f0, .int .i64 ho.f1, .int .i64 fi.f0, .int .i64 fi.f1, .slice A l.length c], .bool false, .bool false, .pointer (some ⟨w.heap.size, 4, none⟩), .slice A l.length c, .int .i64 l.length, .bool false, .bool false, undef, .tuple #[.slice Aa nh ca, .int .i64 (bookErr ho fi l)], .agg #[.int .i64 ho.f0, .int .i64 ho.f1, .int .i64 fi.f0, .int .i64 fi.f1, .slice A l.length c], .tuple #[.slice Aa nh ca, .int .i64 (bookErr ho fi l)], .slice Aa nh ca, .int .i64 (bookErr ho fi l), .int .i64 (bookErr ho fi l), .bool false, .bool false, .agg #[.int .i64 ho.f0, .int .i64 ho.f1, .int .i64 fi.f0, .int .i64 fi.f1, .slice A l.length c], .int .i64 0, .bool false, .bool false, undef, undef, undef, undef, undef, undef, undef, .tuple #[.slice Ab nh cb, .int .i64 (bookErr ho fi l)], .agg #[.int .i64 ho.f0, .int .i64 ho.f1, .int .i64 fi.f0, .int .i64 fi.f1, .slice A l.length c], .tuple #[.slice Ab nh cb, .int .i64 (bookErr ho fi l)], .slice Ab nh cb, .int .i64 (bookErr ho fi l), .slice Aa nh ca, .int .i64 nh, .slice Ab nh cb, .int .i64 nh, .bool false, .agg #[.int .i64 ho.f0, .int .i64 ho.f1, .int .i64 fi.f0, .int .i64 fi.f1, .slice A l.length c], .slice Ab nh cb, .slice A2 wl.length c2, .agg #[.slice A0 n0 c0, .slice A1 n1 c1, .slice A3 n2 c3, .slice A4 n3 c4], .int .i64 first, .pointer (some ⟨w.heap.size, 2, none⟩), .pointer (some ⟨w.heap.size, 2, none⟩), .int .i64 fi.f0, .pointer (some ⟨w.heap.size, 2, none⟩), .pointer (some ⟨w.heap.size, 3, none⟩), .int .i64 fi.f1, .int .i64 wh, .int .i64 i, .slice Ab nh cb, .int .i64 nh, .int .i64 (2 + nh), .bool true, u83, u84, u85, u86, u87, u88, u89, u90, .agg #[.int .i64 ho.f0, .int .i64 ho.f1, .int .i64 fi.f0, .int .i64 fi.f1, .slice A l.length c], .agg #[.slice A0 n0 c0, .slice A1 n1 c1, .slice A3 n2 c3, .slice A4 n3 c4], .int .i64 wh, .int .u8 a.fst, .int .i64 a.snd, .slice (some ⟨gt, 0, none⟩) (l.length + 1) ct, .agg #[.int .i64 ho.f0, .int .i64 ho.f1, .int .i64 fi.f0, .int .i64 fi.f1, .slice A l.length c], .int .u8 a.fst, .slice (some ⟨gt, 0, none⟩) (l.length + 1) ct, .bool true, .bool false, .int .i64 j, .slice (some ⟨gt, 0, none⟩) (l.length + 1) ct, .int .i64 (l.length + 1), .bool true, u106, u107, u108, u109, u110, u111, u112, u113, u114, u115, u116, u117, u118, .bool false, .tuple #[.agg #[.int .i64 am.f0, .int .i64 am.f1], .int .i64 0], .agg #[.int .i64 ho.f0, .int .i64 ho.f1, .int .i64 fi.f0, .int .i64 fi.f1, .slice A l.length c], .int .u8 a.fst, .int .i64 a.snd, .int .i64 j, .tuple #[.agg #[.int .i64 am.f0, .int .i64 am.f1], .int .i64 0], .agg #[.int .i64 am.f0, .int .i64 am.f1], .int .i64 0, .int .i64 0, .bool false, .bool false, .slice (some ⟨gt, 0, none⟩) (l.length + 1) ct, .int .i64 ((j : Int)), .pointer (some ⟨gt, j, none⟩), .int .i64 tj, .pointer (some ⟨B23, 0, none⟩), .int .i64 am.f0, .bool false, .bool false, .bool false, .slice (some ⟨gt, 0, none⟩) (l.length + 1) ct, .int .i64 ((j : Int)), .pointer (some ⟨gt, j, none⟩), .int .i64 tj, .pointer (some ⟨B23, 1, none⟩), .int .i64 am.f1, .bool false, .bool false, undef, undef, undef, undef, undef, undef, undef, undef, undef, undef, undef, undef, undef, undef, undef, undef, undef, undef, undef, undef, undef, undef, undef], defers := [] }
            mixed (by kernel_rfl) rfl (Ahead.of3 128 148 rfl rfl (by kernel_rfl) rfl rfl) ?_ (AllFlow.ops rfl ?_) rfl ?_
          · exact ⟨y0, y1, r0, (Below.refl _ _).drew⟩
          · refine ⟨?_, ?_, ?_, ?_, ?_, ?_, ?_, ?_, ?_, ?_, ?_, ?_, ?_, ?_, ?_, ?_, ?_, ?_, ?_, ?_, trivial⟩
            · exact .val 128 _ rfl rfl fun V ⟨y0, y1, x0, hB_⟩ => by go_simp
            · exact .val 129 _ rfl rfl fun V ⟨y0, y1, x0, hB_⟩ => by go_simp
            · exact .val 130 _ rfl rfl fun V ⟨y0, y1, x0, hB_⟩ => by go_simp
            · exact .val 131 _ rfl rfl fun V ⟨y0, y1, x0, hB_⟩ => by go_simp
            · exact .val 132 _ rfl rfl fun V ⟨y0, y1, x0, hB_⟩ => by go_simp
            · exact .val 133 _ rfl rfl fun V ⟨y0, y1, x0, hB_⟩ => by go_simp <;> exact fun hh => absurd hh (by omega)
            · exact .val 134 _ rfl rfl fun V ⟨y0, y1, x0, hB_⟩ => by go_simp
            · exact .val 135 _ rfl rfl fun V ⟨y0, y1, x0, hB_⟩ => by go_simp
            · exact .val 136 _ rfl rfl fun V ⟨y0, y1, x0, hB_⟩ => by go_simp
            · exact .val 137 _ rfl rfl fun V ⟨y0, y1, x0, hB_⟩ => by go_simp
            · exact .val 138 _ rfl rfl fun V ⟨y0, y1, x0, hB_⟩ => by go_simp
            · exact .val 139 _ rfl rfl fun V ⟨y0, y1, x0, hB_⟩ => by go_simp
            · exact .val 140 _ rfl rfl fun V ⟨y0, y1, x0, hB_⟩ => by go_simp
            · exact .val 141 _ rfl rfl fun V ⟨y0, y1, x0, hB_⟩ => by go_simp
            · exact .val 142 _ rfl rfl fun V ⟨y0, y1, x0, hB_⟩ => by go_simp <;> exact fun hh => absurd hh (by omega)
            · exact .val 143 _ rfl rfl fun V ⟨y0, y1, x0, hB_⟩ => by go_simp
            · exact .val 144 _ rfl rfl fun V ⟨y0, y1, x0, hB_⟩ => by go_simp
            · exact .val 145 _ rfl rfl fun V ⟨y0, y1, x0, hB_⟩ => by go_simp
            · exact .val 146 _ rfl rfl fun V ⟨y0, y1, x0, hB_⟩ => by go_simp
            · exact .val 147 _ rfl rfl fun V ⟨y0, y1, x0, hB_⟩ => by go_simp
          rintro V ⟨y0, y1, x0, hB_⟩
          have HJ10 := hid (HJ9.out.trans (hB_.mono HJ9.out.size))
          clear hB_ HJ9 H23 y0 y1 r0 x0 dA dB hj3 hj4
          have hl2 := HL.out
          have hj2 := HJL.out
          go_wp2
          go_roundw
          case rel => exact ⟨j + 1, by have := HJL.out; omega, by have := HJL.out; go_num, HJ10⟩
          case measure => have := HJL.out; simp [intOf]; omega
        · obtain rfl : j = l.length + 1 := by omega
          have HXE := hid (HX7.out.trans (HJ.out.mono HX7.out.size))
          have HW := hid HST.out.1
          clear HJ
          have hn2 := HN.out
          have hi2 := HLT.out
          go_wp2
          go_roundw
          case rel => exact ⟨i + 1, by have := HLT.out; omega, by go_num, al, rfl, hid ⟨HXE.out, fun h k hk => by
            rcases Nat.lt_or_eq_of_le (Nat.le_of_lt_succ hk) with h1 | h1
            · exact HAL.out h k h1
            · subst h1
              have := HW.out
              rw [← HKA.out] at this
              exact this⟩⟩
          case measure => have := HLT.out; simp [intOf]; omega
    · obtain rfl : i = 2 + nh := by omega
      have hil : ¬ ((2 + nh : Nat) : Int) < 2 + (nh : Int) := by omega
      have hbz := HBX.out.1.trans (HX.out.1.mono HBX.out.1.size)
      have HBE := hid hbz
      have hbxj := heap_grow HBX.out.2 HX.out.1
      have HBB := hid hbxj
      have y0 := blkCell hbxj 0
      have y1 := blkCell hbxj 1
      have y2 := blkCell hbxj 2
      have y3 := blkCell hbxj 3
      have y4 := blkCell hbxj 4
      simp at y0 y1 y2 y3 y4
      obtain ⟨wa, hwa⟩ : ∃ q, wrongAll ho fi l = q := ⟨_, rfl⟩
      have HWA := hid (show al = true → wa.1 = (l.length : Int) from fun h => by
        rw [← hwa, wrong_none fun x hx => ?_]
        obtain ⟨k, hk, rfl⟩ := List.getElem_of_mem hx
        rw [accs_len, HNH.out] at hk
        rw [accs_at (by rw [HNH.out]; exact hk) (by rw [accs_len, HNH.out]; exact hk)]
        exact HX.out.2 h k hk)
      have hwr := Wrong_any ho fi A c l Wk (Kd.C_below HR.out hbz) HC.out
      have hwv : wrongV ho fi l = .tuple #[.int .i64 wa.1, .int .u8 wa.2.1, .int .i64 wa.2.2, .int .i64 0] := by unfold wrongV; rw [if_pos HV.out, hwa]
      rw [hwv] at hwr
      have HWR := hid hwr
      clear hbz hbxj hwa hwr hwv HX
      go_wp2_with fail
      refine HWR.out.mono ?_
      rintro e W8 ⟨rfl, hb⟩
      have HBZ := hid (And.intro (HBE.out.trans (hb.mono HBE.out.size)) (heap_grow HBB.out hb))
      clear hb HWR HBE HBB y0 y1 y2 y3 y4
      have y4 := blkCell HBZ.out.2 4
      simp at y4
      cases al with
      | true =>
        have hw := HWA.out rfl
        have dw : (wa.1 == (l.length : Int)) = true := by simp [hw]
        clear hw
        go_wp2_with fail
        refine (sums_any _).mono ?_
        rintro e WS ⟨rfl, hb⟩
        have H3 := hid (HBZ.out.1.trans (hb.mono HBZ.out.1.size))
        clear hb
        go_wp2
        go_ret
        exact ⟨rfl, H3.out⟩
      | false =>
        go_wp2_with fail
        refine (sums_any _).mono ?_
        rintro e WS ⟨rfl, hb⟩
        have H3 := hid (HBZ.out.1.trans (hb.mono HBZ.out.1.size))
        clear hb
        go_wp2
        go_ret
        exact ⟨rfl, H3.out⟩
end Go.Proofs.YtbmkbokkmmdjdaaGreat
end
