-- J5 N51 (wip/pack9.py)
import Derived.Test.YtbmkbokkmmdjdaaGreatP27
import Derived.Test.YtbmkbokkmmdjdaaGreatP2
import Derived.Test.YtbmkbokkmmdjdaaGreatP18
section
namespace Go.Proofs.YtbmkbokkmmdjdaaGreat
open Go.RowKit Go.Proofs.YtbmkbokkmmdjdaaGreatW.PrintWords Go.Proofs.YtbmkbokkmmdjdaaGreatW.PrintLast Go.Proofs.YtbmkbokkmmdjdaaGreatW.PrintMore
open Q Go.Shelf
attribute [local go_sem] Oper.semAt_some wide_depth wide_fn
set_option linter.unusedVariables false
set_option linter.unusedSimpArgs false

structure MI (w : World) (ho fi : S23) (A : Option Addr) (c : Nat) (l : List S93) (vh : Value) (hs : List S101) (B14 : Nat) (bk : S23) (vf : Value) (f : List S23) (r : S23) (W : World) : Prop where
  bx : W.heap[w.heap.size]? = some (.cells #[.int .i64 ho.f0, .int .i64 ho.f1, .int .i64 fi.f0, .int .i64 fi.f1, .slice A l.length c] 26 (0, 0))
  b8 : W.heap[w.heap.size + 1]? = some (.cells #[.int .i64 r.f0, .int .i64 r.f1] 23 (0, 0))
  b14 : W.heap[B14]? = some (.cells #[.int .i64 bk.f0, .int .i64 bk.f1] 23 (0, 0))
  row : W.ownsRow (w.heap.size + 1 + 1) 23 2 vf f.length (sF f)
  ne : vf.ownBlock ≠ some B14
  rh : W.ownsRow 0 101 6 vh hs.length (hF hs)
  be : Below w.heap.size w W
theorem MI.grow {w W W' : World} {ho fi : S23} {A : Option Addr} {c : Nat} {l : List S93} {vh : Value} {hs : List S101} {B14 : Nat} {bk : S23} {vf : Value} {f : List S23} {r : S23} (h : MI w ho fi A c l vh hs B14 bk vf f r W) (hb : Below W.heap.size W W') : MI w ho fi A c l vh hs B14 bk vf f r W' :=
  ⟨heap_grow h.bx hb, heap_grow h.b8 hb, heap_grow h.b14 hb, rings_set h.row hb, h.ne, rings_set h.rh hb, h.be.trans (hb.mono h.be.size)⟩
theorem MI.put8 {w W : World} {ho fi : S23} {A : Option Addr} {c : Nat} {l : List S93} {vh : Value} {hs : List S101} {B14 : Nat} {bk : S23} {vf : Value} {f : List S23} {r : S23} (h : MI w ho fi A c l vh hs B14 bk vf f r W) (hB : w.heap.size + 1 + 1 ≤ B14) (v : S23) : MI w ho fi A c l vh hs B14 bk vf f v ((W.setCell ⟨w.heap.size + 1, 0, none⟩ (.int .i64 v.f0)).setCell ⟨w.heap.size + 1, 1, none⟩ (.int .i64 v.f1)) := by
  have n1 := row_ne_base h.row (show w.heap.size + 1 < w.heap.size + 1 + 1 by omega)
  have n2 := row_ne_blk h.rh h.b8 (by decide)
  exact ⟨st2_other (by omega) h.bx _ _, st2_same h.b8 _ _, st2_other (by omega) h.b14 _ _, ownsRow_setCell_other (a := ⟨w.heap.size + 1, 1, none⟩) (ownsRow_setCell_other (a := ⟨w.heap.size + 1, 0, none⟩) h.row n1 _) n1 _, h.ne, ownsRow_setCell_other (a := ⟨w.heap.size + 1, 1, none⟩) (ownsRow_setCell_other (a := ⟨w.heap.size + 1, 0, none⟩) h.rh n2 _) n2 _, st2_below h.be (by omega) _ _⟩
theorem MI.put14 {w W : World} {ho fi : S23} {A : Option Addr} {c : Nat} {l : List S93} {vh : Value} {hs : List S101} {B14 : Nat} {bk : S23} {vf : Value} {f : List S23} {r : S23} (h : MI w ho fi A c l vh hs B14 bk vf f r W) (hB : w.heap.size + 1 + 1 ≤ B14) (v : S23) : MI w ho fi A c l vh hs B14 v vf f r ((W.setCell ⟨B14, 0, none⟩ (.int .i64 v.f0)).setCell ⟨B14, 1, none⟩ (.int .i64 v.f1)) := by
  have n1 := h.ne
  have n2 := row_ne_blk h.rh h.b14 (by decide)
  exact ⟨st2_other (by omega) h.bx _ _, st2_other (by omega) h.b8 _ _, st2_same h.b14 _ _, ownsRow_setCell_other (a := ⟨B14, 1, none⟩) (ownsRow_setCell_other (a := ⟨B14, 0, none⟩) h.row n1 _) n1 _, h.ne, ownsRow_setCell_other (a := ⟨B14, 1, none⟩) (ownsRow_setCell_other (a := ⟨B14, 0, none⟩) h.rh n2 _) n2 _, st2_below h.be (by omega) _ _⟩
set_option maxRecDepth 100000 in
set_option maxHeartbeats 8000000 in
set_option pp.deepTerms true in
set_option pp.maxSteps 1000000 in
theorem AmountR_any (ho fi : S23) (A : Option Addr) (c : Nat) (l : List S93) (k q n : Int) (w : World) (hr : Kd.C k93 w A l.length l) (hc : l.length ≤ c) (hk0 : 0 ≤ k) :
    Calls Tryz.prog 11 #[.agg #[.int .i64 ho.f0, .int .i64 ho.f1, .int .i64 fi.f0, .int .i64 fi.f1, .slice A l.length c], .int .u8 k, .int .i64 q, .int .i64 n] w fun e w' => e = .returned (.tuple #[.agg #[.int .i64 (amountR ho fi l k q n).1.f0, .int .i64 (amountR ho fi l k q n).1.f1], .int .i64 (amountR ho fi l k q n).2]) ∧ Below w.heap.size w w' := by
  have hu1 := Tryz.underlying26
  have hu6 := Tryz.underlying23
  have hu7 := Tryz.underlying62
  have HB := Below.refl w.heap.size w
  have HBE0 := hid ((HB.alloc (Nat.le_refl _) (.cells #[.int .i64 ho.f0, .int .i64 ho.f1, .int .i64 fi.f0, .int .i64 fi.f1, .slice A l.length c] 26)).alloc (by simp) (.cells #[.int .i64 0, .int .i64 0] 23))
  have e0 := alloc_old (o' := (.cells #[.int .i64 0, .int .i64 0] 23)) (World.alloc_heap_new w (.cells #[.int .i64 ho.f0, .int .i64 ho.f1, .int .i64 fi.f0, .int .i64 fi.f1, .slice A l.length c] 26))
  have e1 := World.alloc_heap_new (w.alloc (.cells #[.int .i64 ho.f0, .int .i64 ho.f1, .int .i64 fi.f0, .int .i64 fi.f1, .slice A l.length c] 26)) (.cells #[.int .i64 0, .int .i64 0] 23)
  simp only [World.size_alloc] at e1
  go_enter Tryz.func11, Tryz.ntmps11
  go_wp2_with fail
  generalize ((w.alloc (.cells #[.int .i64 ho.f0, .int .i64 ho.f1, .int .i64 fi.f0, .int .i64 fi.f1, .slice A l.length c] 26)).alloc (.cells #[.int .i64 0, .int .i64 0] 23)) = W1 at *
  have HR := hid hr
  clear hr HB
  refine (checkR_any ho fi A c l _ (Kd.C_below HR.out HBE0.out) hc).mono ?_
  rintro e W2 ⟨rfl, hb⟩
  have HE0 := hid (heap_grow e0 hb)
  have HZ := hid (heap_grow e1 hb)
  have HBE := hid (HBE0.out.trans (hb.mono HBE0.out.size))
  have y0 := blkCell HE0.out 0
  have y1 := blkCell HE0.out 1
  have y2 := blkCell HE0.out 2
  have y3 := blkCell HE0.out 3
  have y4 := blkCell HE0.out 4
  simp at y0 y1 y2 y3 y4
  clear hb e0 e1 HBE0
  by_cases h1 : bookErr ho fi l = 0
  rotate_left
  · have hres : amountR ho fi l k q n = (z23, bookErr ho fi l) := by unfold amountR; rw [if_pos h1]
    obtain ⟨er, her⟩ : ∃ er, bookErr ho fi l = er := ⟨_, rfl⟩
    rw [her] at h1 hres
    rw [her]
    have d0 : (er != 0) = true := by simpa using h1
    clear her h1
    have HRES := hid (show amountR ho fi l k q n = (z23, er) from hres)
    clear hres
    have hz := st2_same HZ.out (.int .i64 0) (.int .i64 0)
    have hb := st2_below HBE.out (show w.heap.size ≤ w.heap.size + 1 by omega) (.int .i64 0) (.int .i64 0)
    have z0 := blkCell HZ.out 0
    have z1 := blkCell HZ.out 1
    have g0 := blkFrozen HZ.out 0
    have g1 := blkFrozen HZ.out 1
    simp at z0 z1
    go_wp2
    generalize ((W2.setCell ⟨w.heap.size + 1, 0, none⟩ (.int .i64 0)).setCell ⟨w.heap.size + 1, 1, none⟩ (.int .i64 0)) = w5 at *
    have q0 := blkCell hz 0
    have q1 := blkCell hz 1
    simp at q0 q1
    refine bodyPost_ret (v := .tuple #[.agg #[.int .i64 0, .int .i64 0], .int .i64 er]) (by simp [results, Tryz.results11, go_sem, q0, q1]) rfl ⟨by rw [HRES.out]; rfl, hb⟩
  have HV := hid h1
  have HL := hid (bookOk_of h1).len
  have d1 : (bookErr ho fi l != 0) = false := by simpa using h1
  clear h1
  go_wp2_with fail
  refine (periodsR_any ho fi A c l _ (Kd.C_below HR.out HBE.out) hc HV.out).mono ?_
  rintro e W3 ⟨vp, vh, rfl, hrp, hrh, hb⟩
  obtain ⟨Ah, ch, rfl⟩ := own_slice hrh
  obtain ⟨Ap, cp, rfl⟩ := own_slice hrp
  have HBE' := hid (HBE.out.trans (hb.mono HBE.out.size))
  have HRH := hid (own_lower (Nat.zero_le _) hrh)
  have HE0' := hid (heap_grow HE0.out hb)
  have HZ' := hid (heap_grow HZ.out hb)
  have HN := hid (show (keptOf l).hs.length ≤ 256 by have := kept_len l l.length (Nat.le_refl _); rw [List.take_length] at this; have := HL.out; omega)
  clear y0 y1 y2 y3 y4 hb hrh hrp HBE d1 HE0 HZ
  have HBE := HBE'
  have HE0 := HE0'
  have HZ := HZ'
  clear HBE' HE0' HZ'
  have HAR := hid (show amountR ho fi l k q n = (if 2 < k ∨ n < 0 ∨ (l.length : Int) < n then (z23, 1)
    else if (k = 2 ∧ (q < 0 ∨ ((keptOf l).hs.length : Int) ≤ q)) ∨ (k ≠ 2 ∧ q ≠ 0) then (z23, 7)
    else if (fwdRL ho fi l (k, q)).length ≤ l.length then (z23, 10)
    else (meetS ((fwdRL ho fi l (k, q)).getD n.toNat z23) (backR (boundsS ho k) (chgL l (k, q)) (l.length - n.toNat)), 0)) by unfold amountR; rw [if_neg (by rw [HV.out]; decide)])
  obtain ⟨nh, hnh⟩ : ∃ nh, (keptOf l).hs.length = nh := ⟨_, rfl⟩
  have HNH := hid hnh
  rw [hnh] at HAR HN HRH
  rw [hnh]
  clear hnh
  have y0 := blkCell HE0.out 0
  have y1 := blkCell HE0.out 1
  have y2 := blkCell HE0.out 2
  have y3 := blkCell HE0.out 3
  have y4 := blkCell HE0.out 4
  simp at y0 y1 y2 y3 y4
  by_cases c1 : 2 < k
  · have hres : amountR ho fi l k q n = (z23, 1) := by rw [HAR.out, if_pos (Or.inl c1)]
    have d1 : decide (2 < k) = true := decide_eq_true c1
    clear c1
    have HRES := hid (show amountR ho fi l k q n = (z23, 1) from hres)
    clear hres
    have hz := st2_same HZ.out (.int .i64 0) (.int .i64 0)
    have hb := st2_below HBE.out (show w.heap.size ≤ w.heap.size + 1 by omega) (.int .i64 0) (.int .i64 0)
    have z0 := blkCell HZ.out 0
    have z1 := blkCell HZ.out 1
    have g0 := blkFrozen HZ.out 0
    have g1 := blkFrozen HZ.out 1
    simp at z0 z1
    go_wp2
    generalize ((W3.setCell ⟨w.heap.size + 1, 0, none⟩ (.int .i64 0)).setCell ⟨w.heap.size + 1, 1, none⟩ (.int .i64 0)) = w5 at *
    have q0 := blkCell hz 0
    have q1 := blkCell hz 1
    simp at q0 q1
    refine bodyPost_ret (v := .tuple #[.agg #[.int .i64 0, .int .i64 0], .int .i64 1]) (by simp [results, Tryz.results11, go_sem, q0, q1]) rfl ⟨by rw [HRES.out]; rfl, hb⟩
  have d1 : decide (2 < k) = false := decide_eq_false c1
  by_cases c2 : n < 0
  · have hres : amountR ho fi l k q n = (z23, 1) := by rw [HAR.out, if_pos (Or.inr (Or.inl c2))]
    have d2 : decide (n < 0) = true := decide_eq_true c2
    clear c1 c2
    have HRES := hid (show amountR ho fi l k q n = (z23, 1) from hres)
    clear hres
    have hz := st2_same HZ.out (.int .i64 0) (.int .i64 0)
    have hb := st2_below HBE.out (show w.heap.size ≤ w.heap.size + 1 by omega) (.int .i64 0) (.int .i64 0)
    have z0 := blkCell HZ.out 0
    have z1 := blkCell HZ.out 1
    have g0 := blkFrozen HZ.out 0
    have g1 := blkFrozen HZ.out 1
    simp at z0 z1
    go_wp2
    generalize ((W3.setCell ⟨w.heap.size + 1, 0, none⟩ (.int .i64 0)).setCell ⟨w.heap.size + 1, 1, none⟩ (.int .i64 0)) = w5 at *
    have q0 := blkCell hz 0
    have q1 := blkCell hz 1
    simp at q0 q1
    refine bodyPost_ret (v := .tuple #[.agg #[.int .i64 0, .int .i64 0], .int .i64 1]) (by simp [results, Tryz.results11, go_sem, q0, q1]) rfl ⟨by rw [HRES.out]; rfl, hb⟩
  have d2 : decide (n < 0) = false := decide_eq_false c2
  by_cases c3 : (l.length : Int) < n
  · have hres : amountR ho fi l k q n = (z23, 1) := by rw [HAR.out, if_pos (Or.inr (Or.inr c3))]
    have d3 : decide ((l.length : Int) < n) = true := decide_eq_true c3
    clear c1 c2 c3
    have HRES := hid (show amountR ho fi l k q n = (z23, 1) from hres)
    clear hres
    have hz := st2_same HZ.out (.int .i64 0) (.int .i64 0)
    have hb := st2_below HBE.out (show w.heap.size ≤ w.heap.size + 1 by omega) (.int .i64 0) (.int .i64 0)
    have z0 := blkCell HZ.out 0
    have z1 := blkCell HZ.out 1
    have g0 := blkFrozen HZ.out 0
    have g1 := blkFrozen HZ.out 1
    simp at z0 z1
    go_wp2
    generalize ((W3.setCell ⟨w.heap.size + 1, 0, none⟩ (.int .i64 0)).setCell ⟨w.heap.size + 1, 1, none⟩ (.int .i64 0)) = w5 at *
    have q0 := blkCell hz 0
    have q1 := blkCell hz 1
    simp at q0 q1
    refine bodyPost_ret (v := .tuple #[.agg #[.int .i64 0, .int .i64 0], .int .i64 1]) (by simp [results, Tryz.results11, go_sem, q0, q1]) rfl ⟨by rw [HRES.out]; rfl, hb⟩
  have d3 : decide ((l.length : Int) < n) = false := decide_eq_false c3
  have HAR2 := hid (show amountR ho fi l k q n = (if (k = 2 ∧ (q < 0 ∨ (nh : Int) ≤ q)) ∨ (k ≠ 2 ∧ q ≠ 0) then (z23, 7)
    else if (fwdRL ho fi l (k, q)).length ≤ l.length then (z23, 10)
    else (meetS ((fwdRL ho fi l (k, q)).getD n.toNat z23) (backR (boundsS ho k) (chgL l (k, q)) (l.length - n.toNat)), 0)) by rw [HAR.out, if_neg (by omega)])
  obtain ⟨m, rfl⟩ : ∃ m : Nat, n = m := ⟨n.toNat, by omega⟩
  have HML0 := hid (show m ≤ l.length by omega)
  have HKK := hid (show 0 ≤ k ∧ k ≤ 2 by omega)
  have d4 : ¬ l.length < m := by omega
  have d5 : ¬ (m : Int) < 0 := by omega
  have d6 : ¬ (l.length : Int) < (m : Int) := by omega
  have d7 : decide (l.length < m) = false := decide_eq_false d4
  clear c1 c2 c3 HAR hk0
  go_upto_region 7 with fail
  obtain ⟨bad, hbad⟩ : ∃ b, decide ((k = 2 ∧ (q < 0 ∨ (nh : Int) ≤ q)) ∨ (k ≠ 2 ∧ q ≠ 0)) = b := ⟨_, rfl⟩
  clear y0 y1 y2 y3 y4 d1 d2 d3 d4 d5 d6 d7
  go_cut [43] from 44 to 63 (fun v43 wc => v43 = .bool bad ∧ Hid (Below W3.heap.size W3 wc))
  case first =>
    have HBD := hid hbad
    clear hbad
    have HRF := hid (Below.refl W3.heap.size W3)
    by_cases k2 : k = 2
    · have b1 : (k == 2) = true := by simp [k2]
      have b2 : (k != 2) = false := by simp [k2]
      by_cases h0 : q < 0
      · have b3 : decide (q < 0) = true := decide_eq_true h0
        have hb : bad = true := by rw [← HBD.out]; simp [k2, h0]
        clear k2 h0
        go_wp2
        go_meet
        case rel => exact ⟨by rw [hb], HRF⟩
      · have b3 : decide (q < 0) = false := decide_eq_false h0
        by_cases h4 : (nh : Int) ≤ q
        · have b4 : decide ((nh : Int) ≤ q) = true := decide_eq_true h4
          have hb : bad = true := by rw [← HBD.out]; simp [k2, h4]
          clear k2 h0 h4
          go_wp2
          go_meet
          case rel => exact ⟨by rw [hb], HRF⟩
        · have b4 : decide ((nh : Int) ≤ q) = false := decide_eq_false h4
          have hb : bad = false := by rw [← HBD.out]; simp [k2]; omega
          clear k2 h0 h4
          go_wp2
          go_meet
          case rel => exact ⟨by rw [hb], HRF⟩
    · have b1 : (k == 2) = false := by simp [k2]
      have b2 : (k != 2) = true := by simp [k2]
      by_cases h0 : q = 0
      · have b3 : (q != 0) = false := by simp [h0]
        have hb : bad = false := by rw [← HBD.out]; simp [k2, h0]
        clear k2 h0
        go_wp2
        go_meet
        case rel => exact ⟨by rw [hb], HRF⟩
      · have b3 : (q != 0) = true := by simp [h0]
        have hb : bad = true := by rw [← HBD.out]; simp [k2, h0]
        clear k2 h0
        go_wp2
        go_meet
        case rel => exact ⟨by rw [hb], HRF⟩
  case rest =>
  obtain ⟨rfl, hcb⟩ := hcut
  have HBE' := hid (HBE.out.trans (hcb.out.mono HBE.out.size))
  have HRH' := hid (rings_set HRH.out hcb.out)
  have HE0' := hid (heap_grow HE0.out hcb.out)
  have HZ' := hid (heap_grow HZ.out hcb.out)
  clear HBE HRH HE0 HZ hcb
  clear W3
  rename World => W3
  have HBE := HBE'
  have HRH := HRH'
  have HE0 := HE0'
  have HZ := HZ'
  clear HBE' HRH' HE0' HZ'
  cases bad with
  | true =>
    have hres : amountR ho fi l k q m = (z23, 7) := by rw [HAR2.out, if_pos (of_decide_eq_true hbad)]
    clear hbad
    have HRES := hid (show amountR ho fi l k q m = (z23, 7) from hres)
    clear hres
    have hz := st2_same HZ.out (.int .i64 0) (.int .i64 0)
    have hb := st2_below HBE.out (show w.heap.size ≤ w.heap.size + 1 by omega) (.int .i64 0) (.int .i64 0)
    have z0 := blkCell HZ.out 0
    have z1 := blkCell HZ.out 1
    have g0 := blkFrozen HZ.out 0
    have g1 := blkFrozen HZ.out 1
    simp at z0 z1
    go_wp2
    generalize ((W3.setCell ⟨w.heap.size + 1, 0, none⟩ (.int .i64 0)).setCell ⟨w.heap.size + 1, 1, none⟩ (.int .i64 0)) = w5 at *
    have q0 := blkCell hz 0
    have q1 := blkCell hz 1
    simp at q0 q1
    refine bodyPost_ret (v := .tuple #[.agg #[.int .i64 0, .int .i64 0], .int .i64 7]) (by simp [results, Tryz.results11, go_sem, q0, q1]) rfl ⟨by rw [HRES.out]; rfl, hb⟩
  | false =>
  have hnb := of_decide_eq_false hbad
  have HAR3 := hid (show amountR ho fi l k q m = (if (fwdRL ho fi l (k, q)).length ≤ l.length then (z23, 10)
    else (meetS ((fwdRL ho fi l (k, q)).getD m z23) (backR (boundsS ho k) (chgL l (k, q)) (l.length - m)), 0)) by rw [HAR2.out, if_neg hnb]; rfl)
  have HAV := hid (show (k = 0 ∧ q = 0) ∨ (k = 1 ∧ q = 0) ∨ k = 2 by have := HKK.out; omega)
  clear hbad hnb HAR2
  have y0 := blkCell HE0.out 0
  have y1 := blkCell HE0.out 1
  have y2 := blkCell HE0.out 2
  have y3 := blkCell HE0.out 3
  have y4 := blkCell HE0.out 4
  simp at y0 y1 y2 y3 y4
  have hfw := forwardR_any ho fi (.slice Ah nh ch) A c l k q W3 (Kd.C_below HR.out HBE.out) hc HV.out (by rw [HNH.out]; exact HRH.out) HAV.out
  have HFW := hid hfw
  clear hfw
  go_wp2_with fail
  refine HFW.out.mono ?_
  rintro e W4 ⟨vf, rfl, hof, hb⟩
  have HFI := hid (fwdRL_len HV.out (k, q))
  obtain ⟨fl, hfl⟩ : ∃ fl, fwdRL ho fi l (k, q) = fl := ⟨_, rfl⟩
  rw [hfl] at hof HAR3 HFI
  clear hfl
  obtain ⟨nf, hnf⟩ : ∃ nf, fl.length = nf := ⟨_, rfl⟩
  have HNF := hid hnf
  rw [hnf] at hof HAR3 HFI
  clear hnf
  obtain ⟨Af, cf, rfl⟩ := own_slice hof
  have HBE4 := hid (HBE.out.trans (hb.mono HBE.out.size))
  have HRF := hid (own_lower (show w.heap.size + 1 + 1 ≤ W3.heap.size by have := cell_lt (blkCell HZ.out 1); omega) hof)
  have HRH4 := hid (rings_set HRH.out hb)
  have HE04 := hid (heap_grow HE0.out hb)
  have HZ4 := hid (heap_grow HZ.out hb)
  clear hb hof y0 y1 y2 y3 y4 HBE HRH HE0 HZ HFW
  have HE0 := HE04
  have HBE := HBE4
  have HZ := HZ4
  clear HBE4 HE04 HZ4
  have y0 := blkCell HE0.out 0
  have y1 := blkCell HE0.out 1
  have y2 := blkCell HE0.out 2
  have y3 := blkCell HE0.out 3
  have y4 := blkCell HE0.out 4
  simp at y0 y1 y2 y3 y4
  by_cases c4 : nf ≤ l.length
  · have hres : amountR ho fi l k q m = (z23, 10) := by rw [HAR3.out, if_pos c4]
    have d4 : decide ((nf : Int) ≤ (l.length : Int)) = true := decide_eq_true (by omega)
    have d5 : decide (nf ≤ l.length) = true := decide_eq_true c4
    clear c4
    have HRES := hid (show amountR ho fi l k q m = (z23, 10) from hres)
    clear hres
    have hz := st2_same HZ.out (.int .i64 0) (.int .i64 0)
    have hb := st2_below HBE.out (show w.heap.size ≤ w.heap.size + 1 by omega) (.int .i64 0) (.int .i64 0)
    have z0 := blkCell HZ.out 0
    have z1 := blkCell HZ.out 1
    have g0 := blkFrozen HZ.out 0
    have g1 := blkFrozen HZ.out 1
    simp at z0 z1
    go_wp2
    generalize ((W4.setCell ⟨w.heap.size + 1, 0, none⟩ (.int .i64 0)).setCell ⟨w.heap.size + 1, 1, none⟩ (.int .i64 0)) = w5 at *
    have q0 := blkCell hz 0
    have q1 := blkCell hz 1
    simp at q0 q1
    refine bodyPost_ret (v := .tuple #[.agg #[.int .i64 0, .int .i64 0], .int .i64 10]) (by simp [results, Tryz.results11, go_sem, q0, q1]) rfl ⟨by rw [HRES.out]; rfl, hb⟩
  have d4 : decide ((nf : Int) ≤ (l.length : Int)) = false := decide_eq_false (by omega)
  have d5 : decide (nf ≤ l.length) = false := decide_eq_false c4
  have HAR4 := hid (show amountR ho fi l k q m = (meetS (fl.getD m z23) (backR (boundsS ho k) (chgL l (k, q)) (l.length - m)), 0) by rw [HAR3.out, if_neg c4])
  have hnf2 : nf = l.length + 1 := by rcases HFI.out with h1 | h1 <;> omega
  subst hnf2
  clear HAR3 HFI c4
  go_wp2_with fail
  refine (boundsR_any ho fi A c l k W4).mono ?_
  rintro e W5 ⟨rfl, hb⟩
  have hg5 := (Below.refl W5.heap.size W5).alloc (Nat.le_refl _) (.cells #[.int .i64 (boundsS ho k).f0, .int .i64 (boundsS ho k).f1] 23)
  have hM0 : MI w ho fi A c l (.slice Ah nh ch) (keptOf l).hs W5.heap.size (boundsS ho k) (.slice Af (l.length + 1) cf) fl ⟨0, 0⟩ (W5.alloc (.cells #[.int .i64 (boundsS ho k).f0, .int .i64 (boundsS ho k).f1] 23)) :=
    ⟨heap_grow (heap_grow HE0.out hb) hg5, heap_grow (heap_grow HZ.out hb) hg5, World.alloc_heap_new W5 _, by rw [HNF.out]; exact rings_set (rings_set HRF.out hb) hg5, fun e => by have := (HRF.out.lt _ e).2; have := hb.size; omega, by rw [HNH.out]; exact rings_set (rings_set HRH4.out hb) hg5, (HBE.out.trans (hb.mono HBE.out.size)).trans (hg5.mono (HBE.out.trans (hb.mono HBE.out.size)).size)⟩
  have HM0 := hid hM0
  have H14 := hid (show w.heap.size + 1 + 1 ≤ W5.heap.size by have := cell_lt (blkCell HZ.out 1); have := hb.size; omega)
  clear hb y0 y1 y2 y3 y4 hg5 hM0 HE0 HZ HRF HRH4 HBE
  go_upto_region 13 with fail
  generalize W5.alloc (.cells #[.int .i64 (boundsS ho k).f0, .int .i64 (boundsS ho k).f1] 23) = W6 at *
  generalize W5.heap.size = B14 at *
  have b4 := blkCell HM0.out.bx 4
  simp at b4
  go_wp2_with fail
  clear b4
  have HLB := hid (chgL_len l (k, q))
  obtain ⟨vf, hvf⟩ : ∃ vf, Value.slice Af (l.length + 1) cf = vf := ⟨_, rfl⟩
  rw [hvf] at HM0
  have HVF := hid hvf
  clear hvf
  go_loopw [15] (fun v15 X => ∃ j : Nat, j ≤ l.length - m ∧ v15 = .int .i64 ((l.length : Int) - 1 - j) ∧ Hid (MI w ho fi A c l (.slice Ah nh ch) (keptOf l).hs B14 (backR (boundsS ho k) (chgL l (k, q)) j) vf fl ⟨0, 0⟩ X)) (fun v15 _ => (intOf v15 + 1 - m).toNat)
  case atStart => exact ⟨0, by omega, by rw [wrap64_id (by omega) (by have := HL.out; omega)]; simp, HM0⟩
  case round =>
    obtain ⟨j, hj, rfl, HX⟩ := hrel
    rename World => Wk
    by_cases hlt : j < l.length - m
    · obtain ⟨i, hi⟩ : ∃ i : Nat, (l.length : Int) - 1 - j = i := ⟨l.length - 1 - j, by omega⟩
      rw [hi]
      have hil : i < l.length := by omega
      have hmi : (m : Int) ≤ (i : Int) := by omega
      have hmi2 : m ≤ i := by omega
      have hmd : decide ((m : Int) ≤ (i : Int)) = true := decide_eq_true hmi
      obtain ⟨bk, hbk⟩ : ∃ bk, backR (boundsS ho k) (chgL l (k, q)) j = bk := ⟨_, rfl⟩
      rw [hbk] at HX
      obtain ⟨cj, hcj⟩ : ∃ cj, (chgL l (k, q)).getD i z23 = cj := ⟨_, rfl⟩
      have hnx : backR (boundsS ho k) (chgL l (k, q)) (j + 1) = meetS (overS bk cj) (boundsS ho k) := by
        show meetS (overS (backR (boundsS ho k) (chgL l (k, q)) j) ((chgL l (k, q)).getD ((chgL l (k, q)).length - 1 - j) z23)) (boundsS ho k) = _
        rw [hbk, HLB.out, show l.length - 1 - j = i by omega, hcj]
      have HNX := hid hnx
      have hch := changeR_any (keptOf l).hs (.slice Ah nh ch) A c l i k q Wk (Kd.C_below HR.out HX.out.be) hc (by have := HL.out; omega) hil HX.out.rh (fun x hx => (round_ok HV.out hil hx).2.2) HAV.out
      rw [← chgL_at hil, hcj] at hch
      have HCH := hid hch
      have HIJ := hid (And.intro hi (And.intro hlt hil))
      clear hch hcj hnx hbk hi hil
      have b4 := blkCell HX.out.bx 4
      simp at b4
      go_wp2_with fail
      refine HCH.out.mono ?_
      rintro e W7 ⟨rfl, hb⟩
      have hg7 := (Below.refl W7.heap.size W7).alloc (Nat.le_refl _) (.cells #[.int .i64 cj.f0, .int .i64 cj.f1] 23)
      have H16 := hid (World.alloc_heap_new W7 (.cells #[.int .i64 cj.f0, .int .i64 cj.f1] 23))
      have HM8 := hid ((HX.out.grow hb).grow hg7)
      clear hb hg7 HX b4 HCH
      go_upto_region 17 with fail
      generalize W7.alloc (.cells #[.int .i64 cj.f0, .int .i64 cj.f1] 23) = W8 at *
      generalize W7.heap.size = B16 at *
      refine wp_flow [[], [0], [], [2], [1, 0, 3, 2], [], [5], [], [7], [6, 5, 8, 7], [4, 1, 0, 3, 2, 9, 6, 5, 8, 7], [], [], [11, 12], [10, 4, 1, 0, 3, 2, 9, 6, 5, 8, 7, 13, 11, 12], [14, 10, 4, 1, 0, 3, 2, 9, 6, 5, 8, 7, 13, 11, 12]] 15
        (fun V => V.cell? ⟨B14, 0, none⟩ = some (.int .i64 bk.f0) ∧ V.cell? ⟨B14, 1, none⟩ = some (.int .i64 bk.f1) ∧ V.cell? ⟨B16, 0, none⟩ = some (.int .i64 cj.f0) ∧ V.cell? ⟨B16, 1, none⟩ = some (.int .i64 cj.f1) ∧ V.cell? ⟨w.heap.size, 0, none⟩ = some (.int .i64 ho.f0) ∧ V.cell? ⟨w.heap.size, 1, none⟩ = some (.int .i64 ho.f1) ∧ V.cell? ⟨w.heap.size, 2, none⟩ = some (.int .i64 fi.f0) ∧ V.cell? ⟨w.heap.size, 3, none⟩ = some (.int .i64 fi.f1) ∧ V.cell? ⟨w.heap.size, 4, none⟩ = some (.slice A l.length c) ∧ Below W8.heap.size W8 V)
        { tmps := #[.agg #[.int .i64 ho.f0, .int .i64 ho.f1, .int .i64 fi.f0, .int .i64 fi.f1, .slice A l.length c], .int .u8 k, .int .i64 q, .int .i64 m, .pointer (some ⟨w.heap.size, 0, none⟩), undef, undef, undef, .pointer (some ⟨w.heap.size + 1, 0, none⟩), .int .i64 0, .int .i64 (bookErr ho fi l), .slice Ap (keptOf l).ps.length cp, .slice Ah nh ch, .slice Af (l.length + 1) cf, .pointer (some ⟨B14, 0, none⟩), .int .i64 i, .pointer (some ⟨B16, 0, none⟩), .agg #[.int .i64 ho.f0, .int .i64 ho.f1, .int .i64 fi.f0, .int .i64 fi.f1, .slice A l.length c], .int .i64 (bookErr ho fi l), .int .i64 (bookErr ho fi l), .bool false, undef, undef, .tuple #[.slice Ap (keptOf l).ps.length cp, .slice Ah nh ch], .agg #[.int .i64 ho.f0, .int .i64 ho.f1, .int .i64 fi.f0, .int .i64 fi.f1, .slice A l.length c], .tuple #[.slice Ap (keptOf l).ps.length cp, .slice Ah nh ch], .slice Ap (keptOf l).ps.length cp, .slice Ah nh ch, .bool false, .int .u8 k, .bool false, .bool false, .int .i64 m, .bool false, .bool false, .bool false, .int .i64 m, .pointer (some ⟨w.heap.size, 4, none⟩), .slice A l.length c, .int .i64 l.length, .bool false, .bool false, undef, .bool false, u44, u45, u46, u47, u48, u49, u50, u51, u52, u53, u54, u55, u56, u57, u58, u59, u60, u61, u62, u63, undef, .agg #[.int .i64 ho.f0, .int .i64 ho.f1, .int .i64 fi.f0, .int .i64 fi.f1, .slice A l.length c], .slice Ah nh ch, .int .u8 k, .int .i64 q, .slice Af (l.length + 1) cf, .slice Af (l.length + 1) cf, .int .i64 (l.length + 1), .pointer (some ⟨w.heap.size, 4, none⟩), .slice A l.length c, .int .i64 l.length, .bool (decide ((l.length : Int) + 1 ≤ (l.length : Int))), undef, .agg #[.int .i64 ho.f0, .int .i64 ho.f1, .int .i64 fi.f0, .int .i64 fi.f1, .slice A l.length c], .int .u8 k, .agg #[.int .i64 (boundsS ho k).f0, .int .i64 (boundsS ho k).f1], .pointer (some ⟨w.heap.size, 4, none⟩), .slice A l.length c, .int .i64 l.length, .int .i64 (wrap64 (l.length - 1)), .int .i64 i, .int .i64 m, .bool true, u87, u88, .slice Ah nh ch, .pointer (some ⟨w.heap.size, 4, none⟩), .slice A l.length c, .int .i64 i, .int .u8 k, .int .i64 q, .agg #[.int .i64 cj.f0, .int .i64 cj.f1], .pointer (some ⟨B14, 0, none⟩), .int .i64 bk.f0, .pointer (some ⟨B16, 1, none⟩), .int .i64 cj.f1, .int .i64 (wrap64 (bk.f0 - cj.f1)), .pointer (some ⟨B14, 1, none⟩), .int .i64 bk.f1, .pointer (some ⟨B16, 0, none⟩), .int .i64 cj.f0, .int .i64 (wrap64 (bk.f1 - cj.f0)), .agg #[.int .i64 (wrap64 (bk.f0 - cj.f1)), .int .i64 (wrap64 (bk.f1 - cj.f0))], .agg #[.int .i64 ho.f0, .int .i64 ho.f1, .int .i64 fi.f0, .int .i64 fi.f1, .slice A l.length c], .int .u8 k, .agg #[.int .i64 ((boundsS ho k).f0), .int .i64 ((boundsS ho k).f1)], .agg #[.int .i64 ((meetS (overS bk cj) (boundsS ho k)).f0), .int .i64 ((meetS (overS bk cj) (boundsS ho k)).f1)], undef, undef, undef, undef, undef, undef], defers := [] }
        mixed (by kernel_rfl) rfl (Ahead.of3 96 111 rfl rfl (by kernel_rfl) rfl rfl) ?_ (AllFlow.ops rfl ?_) rfl ?_
      · exact ⟨blkCell HM8.out.b14 0, blkCell HM8.out.b14 1, blkCell H16.out 0, blkCell H16.out 1, blkCell HM8.out.bx 0, blkCell HM8.out.bx 1, blkCell HM8.out.bx 2, blkCell HM8.out.bx 3, blkCell HM8.out.bx 4, (Below.refl _ _).drew⟩
      · refine ⟨?_, ?_, ?_, ?_, ?_, ?_, ?_, ?_, ?_, ?_, ?_, ?_, ?_, ?_, ?_, trivial⟩
        · exact .val 96 _ rfl rfl fun V ⟨y0, y1, y2, y3, y4, y5, y6, y7, y8, hB_⟩ => by go_simp <;> exact wrap_i _
        · exact .val 97 _ rfl rfl fun V ⟨y0, y1, y2, y3, y4, y5, y6, y7, y8, hB_⟩ => by go_simp <;> exact wrap_i _
        · exact .val 98 _ rfl rfl fun V ⟨y0, y1, y2, y3, y4, y5, y6, y7, y8, hB_⟩ => by go_simp <;> exact wrap_i _
        · exact .val 99 _ rfl rfl fun V ⟨y0, y1, y2, y3, y4, y5, y6, y7, y8, hB_⟩ => by go_simp <;> exact wrap_i _
        · exact .val 100 _ rfl rfl fun V ⟨y0, y1, y2, y3, y4, y5, y6, y7, y8, hB_⟩ => by go_simp <;> exact wrap_i _
        · exact .val 101 _ rfl rfl fun V ⟨y0, y1, y2, y3, y4, y5, y6, y7, y8, hB_⟩ => by go_simp <;> exact wrap_i _
        · exact .val 102 _ rfl rfl fun V ⟨y0, y1, y2, y3, y4, y5, y6, y7, y8, hB_⟩ => by go_simp <;> exact wrap_i _
        · exact .val 103 _ rfl rfl fun V ⟨y0, y1, y2, y3, y4, y5, y6, y7, y8, hB_⟩ => by go_simp <;> exact wrap_i _
        · exact .val 104 _ rfl rfl fun V ⟨y0, y1, y2, y3, y4, y5, y6, y7, y8, hB_⟩ => by go_simp <;> exact wrap_i _
        · exact .val 105 _ rfl rfl fun V ⟨y0, y1, y2, y3, y4, y5, y6, y7, y8, hB_⟩ => by go_simp <;> exact wrap_i _
        · exact .val 106 _ rfl rfl fun V ⟨y0, y1, y2, y3, y4, y5, y6, y7, y8, hB_⟩ => by go_simp <;> exact wrap_i _
        · exact .val 107 _ rfl rfl fun V ⟨y0, y1, y2, y3, y4, y5, y6, y7, y8, hB_⟩ => by go_simp <;> exact wrap_i _
        · exact .val 108 _ rfl rfl fun V ⟨y0, y1, y2, y3, y4, y5, y6, y7, y8, hB_⟩ => by go_simp <;> exact wrap_i _
        · refine .call 109 (.agg #[.int .i64 ((boundsS ho k).f0), .int .i64 ((boundsS ho k).f1)]) 35 #[.agg #[.int .i64 ho.f0, .int .i64 ho.f1, .int .i64 fi.f0, .int .i64 fi.f1, .slice A l.length c], .int .u8 k] rfl rfl (fun V ⟨y0, y1, y2, y3, y4, y5, y6, y7, y8, hB_⟩ => by go_simp) fun V ⟨y0, y1, y2, y3, y4, y5, y6, y7, y8, hB_⟩ => ?_
          refine (boundsR_any ho fi A c l k _).mono ?_
          rintro e w' ⟨rfl, hb⟩
          exact ⟨rfl, cell_grow y0 hb, cell_grow y1 hb, cell_grow y2 hb, cell_grow y3 hb, cell_grow y4 hb, cell_grow y5 hb, cell_grow y6 hb, cell_grow y7 hb, cell_grow y8 hb, hB_.trans (hb.mono hB_.size)⟩
        · refine .call 110 (.agg #[.int .i64 ((meetS (overS bk cj) (boundsS ho k)).f0), .int .i64 ((meetS (overS bk cj) (boundsS ho k)).f1)]) 37 #[.agg #[.int .i64 (wrap64 (bk.f0 - cj.f1)), .int .i64 (wrap64 (bk.f1 - cj.f0))], .agg #[.int .i64 ((boundsS ho k).f0), .int .i64 ((boundsS ho k).f1)]] rfl rfl (fun V ⟨y0, y1, y2, y3, y4, y5, y6, y7, y8, hB_⟩ => by go_simp) fun V ⟨y0, y1, y2, y3, y4, y5, y6, y7, y8, hB_⟩ => ?_
          refine (meetR_any (overS bk cj) (boundsS ho k) _).mono ?_
          rintro e w' ⟨rfl, hb⟩
          exact ⟨rfl, cell_grow y0 hb, cell_grow y1 hb, cell_grow y2 hb, cell_grow y3 hb, cell_grow y4 hb, cell_grow y5 hb, cell_grow y6 hb, cell_grow y7 hb, cell_grow y8 hb, hB_.trans (hb.mono hB_.size)⟩
      rintro V ⟨y0, y1, y2, y3, y4, y5, y6, y7, y8, hB_⟩
      have hM9 := HM8.out.grow hB_
      have z0 := blkCell hM9.b14 0
      have z1 := blkCell hM9.b14 1
      have g0 := blkFrozen hM9.b14 0
      have g1 := blkFrozen hM9.b14 1
      simp at z0 z1
      have HM10 := hid (hM9.put14 H14.out (meetS (overS bk cj) (boundsS ho k)))
      clear hB_ hM9 y0 y1 y2 y3 y4 y5 y6 y7 y8
      rw [← HNX.out] at HM10
      rw [← HNX.out]
      have hL2 := HL.out
      have hi2 := HIJ.out.1
      have hiw : wrap64 ((i : Int) - 1) = (i : Int) - 1 := wrap64_id (by omega) (by omega)
      go_wp2
      go_roundw
      case rel => exact ⟨j + 1, by have := HIJ.out.2.1; omega, by have := HIJ.out.1; congr 1; omega, HM10⟩
      case measure => have := HIJ.out.1; simp [intOf]; omega
    · have hjm : (l.length : Int) - 1 - j = (m : Int) - 1 := by have := HML0.out; omega
      obtain rfl : j = l.length - m := by omega
      rw [hjm]
      have hmd : ¬ (m : Int) ≤ (m : Int) - 1 := by omega
      have hmd2 : decide ((m : Int) ≤ (m : Int) - 1) = false := decide_eq_false hmd
      obtain ⟨bk, hbk⟩ : ∃ bk, backR (boundsS ho k) (chgL l (k, q)) (l.length - m) = bk := ⟨_, rfl⟩
      rw [hbk] at HX HAR4
      obtain ⟨fm, hfm⟩ : ∃ fm, fl.getD m z23 = fm := ⟨_, rfl⟩
      rw [hfm] at HAR4
      have HFM := hid hfm
      have HML := hid (show m < fl.length by have := HML0.out; have := HNF.out; omega)
      clear hbk hfm hjm
      obtain ⟨gf, hgf⟩ : ∃ gf, vf = .slice (some ⟨gf, 0, none⟩) (l.length + 1) cf := by
        have h0 := HX.out.row
        rw [← HVF.out] at h0
        rw [HNF.out] at h0
        obtain ⟨gf, c2, h1⟩ := ownsRow_succ h0
        rw [← HVF.out]
        injection h1 with h1 h2 h3
        subst h3
        exact ⟨gf, by rw [h1]⟩
      subst hgf
      have hAf : Af = some ⟨gf, 0, none⟩ := by
        have h0 := HVF.out
        injection h0
      subst hAf
      have hmn : (m : Int) < (l.length : Int) + 1 := by have := HML0.out; omega
      have hmn2 : m < l.length + 1 := by have := HML0.out; omega
      go_upto_region 18 with fail
      generalize Wk = W8 at *
      have HMz := hid (show MI w ho fi A c l (.slice Ah nh ch) (keptOf l).hs B14 bk (.slice (some ⟨gf, 0, none⟩) (l.length + 1) cf) fl (if ((fun _ => none : Got) 6).isSome = true then meetS fm bk else ⟨0, 0⟩) W8 from HX.out)
      refine wp_flow11 [[], [], [0, 1], [2, 0, 1], [], [3, 2, 0, 1, 4], [5, 3, 2, 0, 1, 4], [6, 5, 3, 2, 0, 1, 4]] 8 [(6, none)]
        (fun g V => MI w ho fi A c l (.slice Ah nh ch) (keptOf l).hs B14 bk (.slice (some ⟨gf, 0, none⟩) (l.length + 1) cf) fl (if (g 6).isSome = true then meetS fm bk else ⟨0, 0⟩) V ∧ True)
        { tmps := #[.agg #[.int .i64 ho.f0, .int .i64 ho.f1, .int .i64 fi.f0, .int .i64 fi.f1, .slice A l.length c], .int .u8 k, .int .i64 q, .int .i64 m, .pointer (some ⟨w.heap.size, 0, none⟩), undef, undef, undef, .pointer (some ⟨(w.heap.size + 1), 0, none⟩), .int .i64 0, .int .i64 (bookErr ho fi l), .slice Ap (keptOf l).ps.length cp, .slice Ah nh ch, .slice (some ⟨gf, 0, none⟩) (l.length + 1) cf, .pointer (some ⟨B14, 0, none⟩), .int .i64 (m - 1), u16, .agg #[.int .i64 ho.f0, .int .i64 ho.f1, .int .i64 fi.f0, .int .i64 fi.f1, .slice A l.length c], .int .i64 (bookErr ho fi l), .int .i64 (bookErr ho fi l), .bool false, undef, undef, .tuple #[.slice Ap (keptOf l).ps.length cp, .slice Ah nh ch], .agg #[.int .i64 ho.f0, .int .i64 ho.f1, .int .i64 fi.f0, .int .i64 fi.f1, .slice A l.length c], .tuple #[.slice Ap (keptOf l).ps.length cp, .slice Ah nh ch], .slice Ap (keptOf l).ps.length cp, .slice Ah nh ch, .bool false, .int .u8 k, .bool false, .bool false, .int .i64 m, .bool false, .bool false, .bool false, .int .i64 m, .pointer (some ⟨w.heap.size, 4, none⟩), .slice A l.length c, .int .i64 l.length, .bool false, .bool false, undef, .bool false, u44, u45, u46, u47, u48, u49, u50, u51, u52, u53, u54, u55, u56, u57, u58, u59, u60, u61, u62, u63, undef, .agg #[.int .i64 ho.f0, .int .i64 ho.f1, .int .i64 fi.f0, .int .i64 fi.f1, .slice A l.length c], .slice Ah nh ch, .int .u8 k, .int .i64 q, .slice (some ⟨gf, 0, none⟩) (l.length + 1) cf, .slice (some ⟨gf, 0, none⟩) (l.length + 1) cf, .int .i64 (l.length + 1), .pointer (some ⟨w.heap.size, 4, none⟩), .slice A l.length c, .int .i64 l.length, .bool (decide ((l.length : Int) + 1 ≤ (l.length : Int))), undef, .agg #[.int .i64 ho.f0, .int .i64 ho.f1, .int .i64 fi.f0, .int .i64 fi.f1, .slice A l.length c], .int .u8 k, .agg #[.int .i64 (boundsS ho k).f0, .int .i64 (boundsS ho k).f1], .pointer (some ⟨w.heap.size, 4, none⟩), .slice A l.length c, .int .i64 l.length, .int .i64 (wrap64 (l.length - 1)), .int .i64 (m - 1), .int .i64 m, .bool false, u87, u88, u89, u90, u91, u92, u93, u94, u95, u96, u97, u98, u99, u100, u101, u102, u103, u104, u105, u106, u107, u108, u109, u110, .slice (some ⟨gf, 0, none⟩) (l.length + 1) cf, .int .i64 m, .pointer (some ⟨gf, m * 2, none⟩), .agg #[.int .i64 fm.f0, .int .i64 fm.f1], .agg #[.int .i64 bk.f0, .int .i64 bk.f1], .agg #[.int .i64 ((meetS fm bk).f0), .int .i64 ((meetS fm bk).f1)]], defers := [] }
        mixed (by kernel_rfl) rfl (by kernel_rfl) (by kernel_rfl) (by kernel_rfl) (Ahead.of3 111 117 rfl rfl (by kernel_rfl) rfl rfl) ?_ rfl ?_ rfl ?_
      · exact ⟨HMz.out.grow (Below.refl _ _).drew, trivial⟩
      · refine ⟨?_, ?_, ?_, ?_, ?_, ?_, ?_, ?_, trivial⟩
        · exact fun g hbe => FlowOp.val 111 _ rfl rfl fun V ⟨hM_, hT_⟩ => by go_simp
        · exact fun g hbe => FlowOp.val 112 _ rfl rfl fun V ⟨hM_, hT_⟩ => by go_simp
        · exact fun g hbe => FlowOp.val 113 _ rfl rfl fun V ⟨hM_, hT_⟩ => by have hm2 := HML.out; go_simp <;> exact fun hh => absurd hh (by omega)
        · exact fun g hbe => FlowOp.val 114 _ rfl rfl fun V ⟨hM_, hT_⟩ => by have hrw := hM_.row; rw [HNF.out] at hrw; obtain ⟨q0, q1⟩ := row_cells2 hrw HNF.out (i := m) (by have := HML0.out; omega); rw [HFM.out] at q0 q1; go_simp
        · exact fun g hbe => FlowOp.val 115 _ rfl rfl fun V ⟨hM_, hT_⟩ => by have y0 := blkCell hM_.b14 0; have y1 := blkCell hM_.b14 1; simp at y0 y1; go_simp
        · intro g hbe
          refine FlowOp.call 116 (.agg #[.int .i64 ((meetS fm bk).f0), .int .i64 ((meetS fm bk).f1)]) 37 #[.agg #[.int .i64 fm.f0, .int .i64 fm.f1], .agg #[.int .i64 bk.f0, .int .i64 bk.f1]] rfl rfl (fun V ⟨hM_, hT_⟩ => by go_simp) fun V ⟨hM_, hT_⟩ => ?_
          refine (meetR_any fm bk _).mono ?_
          rintro e w' ⟨rfl, hb⟩
          exact ⟨rfl, hM_.grow hb, trivial⟩
        · refine ⟨fun r => by rfl, fun r W hr hga hbe ⟨hM_, hT_⟩ => ?_⟩
          dsimp only [putE, Act.put]
          rw [show (if (r 6).isSome = true then meetS fm bk else ⟨0, 0⟩ : S23) = ⟨0, 0⟩ by rw [hr]; rfl] at hM_
          have z0 := blkCell hM_.b8 0
          have z1 := blkCell hM_.b8 1
          have g0 := blkFrozen hM_.b8 0
          have g1 := blkFrozen hM_.b8 1
          simp at z0 z1
          refine .inr ⟨(W.setCell ⟨w.heap.size + 1, 0, none⟩ (.int .i64 (meetS fm bk).f0)).setCell ⟨w.heap.size + 1, 1, none⟩ (.int .i64 (meetS fm bk).f1), rfl, by go_simp, ?_, trivial⟩
          rw [show (if ((Got.upd r 6 undef) 6).isSome = true then meetS fm bk else ⟨0, 0⟩ : S23) = meetS fm bk by simp [Got.upd]]
          exact hM_.put8 H14.out (meetS fm bk)
        · exact fun g hbe => FlowOp.val 9 _ rfl rfl fun V ⟨hM_, hT_⟩ => by go_simp
      · rintro r V ⟨hM_, hT_⟩ hall
        obtain ⟨u6, h6⟩ := hall (6, none) (by simp)
        simp only at h6
        rw [show (if (r 6).isSome = true then meetS fm bk else ⟨0, 0⟩ : S23) = meetS fm bk by simp [h6]] at hM_
        have HMF := hid hM_
        clear hall h6 hM_ hT_
        dsimp only [putE, Act.put]
        simp only [List.drop_succ_cons, List.drop_zero, List.drop_nil]
        go_wp2
        have q0 := blkCell HMF.out.b8 0
        have q1 := blkCell HMF.out.b8 1
        simp at q0 q1
        refine bodyPost_ret (v := .tuple #[.agg #[.int .i64 (meetS fm bk).f0, .int .i64 (meetS fm bk).f1], .int .i64 0]) (by simp [results, Tryz.results11, go_sem, q0, q1]) rfl ⟨by rw [HAR4.out], HMF.out.be⟩
end Go.Proofs.YtbmkbokkmmdjdaaGreat
end
section
namespace Go.Proofs.YtbmkbokkmmdjdaaGreat.Q
open Go.RowKit Go.Proofs.YtbmkbokkmmdjdaaGreatW.PrintWords Go.Proofs.YtbmkbokkmmdjdaaGreatW.PrintLast Go.Proofs.YtbmkbokkmmdjdaaGreatW.PrintMore
attribute [local go_sem] max2_int min2_int max_two min_two max_three min_three max_four min_four   -- for this text's walks alone
set_option linter.unusedVariables false
set_option linter.unusedSimpArgs false

attribute [local go_sem high] eqA23
def culletlaw09_k.f (a0 : Int) (a1 : Int) : Option (Int × Int) := some (a0, a1)
set_option maxHeartbeats 8000000 in
set_option maxRecDepth 100000 in
theorem culletlaw09_k.calls (a0 : Int) (a1 : Int) (r1 : Int) (r2 : Int) (w : World) (h : culletlaw09_k.f a0 a1 = some (r1, r2)) :
    Calls Tryz.prog 51 #[.int .i64 a0, .int .i64 a1] w fun e w' => e = .returned (.agg #[.int .i64 r1, .int .i64 r2]) ∧ Below w.heap.size w w' := by
  have hu23 := Tryz.underlying23
  have HB := Aside0.mk (Below.refl w.heap.size w)
  have H : (some (a0, a1)) = some (r1, r2) := h
  clear h
  simp only [Option.some.injEq, Prod.mk.injEq] at H
  obtain ⟨rfl, rfl⟩ := H
  go_enter Tryz.func51, Tryz.ntmps51
  go_wp2_with (first | ((with_reducible refine gate_dst (N := 4) rfl ?_); refine box_event ?hg (N := 4) ?hd (cs := #[.int .i64 0, .int .i64 0]) (t := 23) ?hr ?_; (case hd => rfl); (case hg => rfl); (case hr => first | (go_simp; done) | (go_simp; rfl)); intro gb103 hg w3 hbox hb; have n0_ := Aside0.mk (below_step (by repeat (first | (with_reducible first | exact HB.out | apply below_alloc | apply pw_below_drewN | apply below_drew1) | exact HB.out)) hb); have n1_ := Aside0.mk (hbox); have n2_ := Aside0.mk ((by rw [hg]; exact (below_size (by repeat (first | (with_reducible first | exact HB.out | apply below_alloc | apply pw_below_drewN | apply below_drew1) | exact HB.out))) : w.heap.size ≤ gb103)); have n3_ := Aside0.mk ((by rw [hg]; exact (below_size (by repeat (first | (with_reducible first | exact HB.out | apply below_alloc | apply pw_below_drewN | apply below_drew1) | exact HB.out))) : w.heap.size ≤ gb103)); clear HB; have HB := n0_; have BK103 := n1_; have GW103 := n2_; have GE103 := n3_; clear n0_ n1_ n2_ n3_; clear hb hbox hg; have hcz4_0 : w3.cell? ⟨gb103, 0, none⟩ = some (.int .i64 0) := (blk_cell BK103.out 0).trans rfl; have hcz4_1 : w3.cell? ⟨gb103, 1, none⟩ = some (.int .i64 0) := (blk_cell BK103.out 1).trans rfl; have hfz4_0 := blk_frozen BK103.out 0; have hfz4_1 := blk_frozen BK103.out 1))
  refine bodyPost_ret (results_cell_row rfl _ _ gb103 23 #[.int .i64 a0, .int .i64 a1] (0, 0) _ rfl (by (with_reducible repeat (first | refine blk_drewN ?_ _ | refine blk_drew ?_ | refine blk_alloc ?_ _)); refine blk_put (cs := #[.int .i64 a0, .int .i64 0]) ?_ 1 _ rfl; (with_reducible repeat (first | refine blk_drewN ?_ _ | refine blk_drew ?_ | refine blk_alloc ?_ _)); refine blk_put (cs := #[.int .i64 0, .int .i64 0]) ?_ 0 _ rfl; (with_reducible repeat (first | refine blk_drewN ?_ _ | refine blk_drew ?_ | refine blk_alloc ?_ _)); exact BK103.out) Tryz.underlying23 rfl (by kernel_rfl)) rfl ?_
  exact ⟨by first | rfl | (simp [errW_none, errW_some] <;> rfl) | (simp [*, errW_none, errW_some] <;> rfl), by repeat (first | (with_reducible first | exact HB.out | apply below_alloc | apply pw_below_drewN | apply below_drew1 | refine below_set ?_ GE103.out) | exact HB.out)⟩

end Go.Proofs.YtbmkbokkmmdjdaaGreat.Q
end
