-- D5 (wip/pack9.py)
import Derived.Test.YtbmkbokkmmdjdaaV24
import Derived.Test.YtbmkbokkmmdjdaaV20
section
namespace Go.Proofs.Ytbmkbokkmmdjdaa
open Go.RowKit Go.Proofs.YtbmkbokkmmdjdaaW.PrintWords Go.Proofs.YtbmkbokkmmdjdaaW.PrintLast Go.Proofs.YtbmkbokkmmdjdaaW.PrintMore
open Q Go.Shelf
attribute [local go_sem] Oper.semAt_some wide_depth wide_fn
set_option linter.unusedVariables false
set_option linter.unusedSimpArgs false

attribute [local go_sem high] eqA36
def lateS (x : S36) (l : List S36) : Bool := decide (0 < l.length) && decide (x.f0 < (l.getD (l.length - 1) z36).f0)
def eqP (y x : S36) : Bool := (y.f0 == x.f0 && (y.f1 == x.f1 && (y.f2 == x.f2 && (y.f3 == x.f3 && ((y.f4.f0 == x.f4.f0 && (y.f4.f1 == x.f4.f1)) && ((y.f5.f0 == x.f5.f0 && (y.f5.f1 == x.f5.f1)) && ((y.f6.f0 == x.f6.f0 && (y.f6.f1 == x.f6.f1)) && (y.f7 == x.f7))))))))
def postS (x : S36) (l : List S36) : Int :=
  if (1 ≤ x.f1 ∧ x.f1 ≤ 8) ∧ betw x.f0 0 1000000000 = true then (if lateS x l = true then 8 else if (decide (1 ≤ x.f1 ∧ x.f1 ≤ 5) && !(spanOk x.f4 1000000)) = true then 1 else if entryErr x l = 0 then (if eqP (bareR x) x = true then 0 else 1) else entryErr x l) else 1
def kindErr (x : S36) (l : List S36) : Int := if x.f1 = 1 then partsErr x else if x.f1 = 2 then (if x.f2 < 0 ∨ (cnt isHeap l : Int) ≤ x.f2 then 7 else 0) else if x.f1 = 4 ∨ x.f1 = 7 ∨ x.f1 = 8 then lotErr x l else 0
def fullB (ke : Int) (x : S36) (l : List S36) : Bool := (ke == 0 && (x.f1 == 1 || x.f1 == 5)) && decide (64 ≤ (cnt isHeap l : Int))
theorem entry_kind (x : S36) (l : List S36) (hk : 1 ≤ x.f1 ∧ x.f1 ≤ 8) : entryErr x l = if fullB (kindErr x l) x l = true then 3 else kindErr x l := by
  have hf : ∀ e : Int, (x.f1 = 1 ∨ x.f1 = 5) → kindErr x l = e → (if fullB (kindErr x l) x l = true then 3 else kindErr x l) = if e = 0 then fullErr l else e := fun e h1 h2 => by
    rw [h2]
    unfold fullB fullErr
    have h3 : (x.f1 == 1 || x.f1 == 5) = true := by simpa using h1
    rw [h3, Bool.and_true]
    by_cases h0 : e = 0
    · rw [if_pos h0, h0]
      by_cases h4 : 64 ≤ cnt isHeap l
      · rw [if_pos h4, if_pos (by simp; omega)]
      · rw [if_neg h4, if_neg (by simp; omega)]
    · rw [if_neg h0, if_neg (by simp [h0])]
  have hn : ¬ (x.f1 = 1 ∨ x.f1 = 5) → (if fullB (kindErr x l) x l = true then 3 else kindErr x l) = kindErr x l := fun h => by
    rw [if_neg]
    unfold fullB
    have h3 : (x.f1 == 1 || x.f1 == 5) = false := by simpa using h
    rw [h3]; simp
  unfold entryErr
  by_cases k1 : x.f1 = 1
  · rw [if_pos k1, hf (partsErr x) (.inl k1) (by unfold kindErr; rw [if_pos k1])]
    unfold inErr partsErr
    by_cases g1 : x.f5.f0 < 0 ∨ x.f5.f1 < x.f5.f0 ∨ x.f6.f0 < 0 ∨ x.f6.f1 < x.f6.f0
    · rw [if_pos g1, if_pos g1, if_neg (by decide)]
    · rw [if_neg g1, if_neg g1]
      by_cases g2 : 1000 < x.f5.f1 ∨ 1000 < x.f6.f1
      · have h3 : ∀ z : Int, 1000 < x.f5.f1 ∨ 1000 < x.f6.f1 ∨ 1000 < z := fun z => by rcases g2 with h | h; exact .inl h; exact .inr (.inl h)
        rw [if_pos (h3 (x.f5.f1 + x.f6.f1)), show (if 1000 < x.f5.f1 ∨ 1000 < x.f6.f1 ∨ 1000 < wrap64 (x.f5.f1 + x.f6.f1) then (12 : Int) else 0) = 12 from if_pos (h3 _), if_neg (by decide)]
      · have e : wrap64 (x.f5.f1 + x.f6.f1) = x.f5.f1 + x.f6.f1 := wrap64_id (by omega) (by omega)
        rw [e]
        by_cases g3 : 1000 < x.f5.f1 ∨ 1000 < x.f6.f1 ∨ 1000 < x.f5.f1 + x.f6.f1
        · rw [if_pos g3, if_pos g3, if_neg (by decide)]
        · rw [if_neg g3, if_neg g3, if_pos rfl]
  · rw [if_neg k1]
    by_cases k5 : x.f1 = 5
    · rw [if_neg (by omega), if_neg (by omega), if_neg (by omega), if_pos k5, hf 0 (.inr k5) (by unfold kindErr; rw [if_neg k1, if_neg (by omega), if_neg (by omega)]), if_pos rfl]
    · rw [hn (by omega)]
      unfold kindErr
      rw [if_neg k1]
      by_cases k2 : x.f1 = 2
      · rw [if_pos k2, if_pos k2]
        unfold chargeErr betw
        by_cases g : x.f2 < 0 ∨ (cnt isHeap l : Int) ≤ x.f2
        · rw [if_pos g, if_neg (by simp; omega)]
        · rw [if_neg g, if_pos (by simp; omega)]
      · rw [if_neg k2, if_neg k2]
        unfold lotErr
        by_cases k3 : x.f1 = 3
        · rw [if_pos k3, if_neg (by omega)]
        · rw [if_neg k3]
          by_cases k4 : x.f1 = 4
          · rw [if_pos k4, if_pos (.inl k4), if_pos k4]
          · rw [if_neg k4, if_neg k5]
            by_cases k6 : x.f1 = 6
            · rw [if_pos k6, if_neg (by omega)]
            · rw [if_neg k6]
              by_cases k7 : x.f1 = 7
              · rw [if_pos k7, if_pos (.inr (.inl k7)), if_neg k4]
              · rw [if_neg k7, if_pos (by omega), if_neg k4]
set_option maxRecDepth 100000 in
set_option maxHeartbeats 8000000 in
set_option pp.deepTerms true in
set_option pp.maxSteps 1000000 in
theorem postR_any (x : S36) (A : Option Addr) (c : Nat) (l : List S36) (w : World) (hr : Kd.C k36 w A l.length l) (hc : l.length ≤ c) (hl : l.length ≤ 1000000) :
    Calls Try.prog 23 #[.slice A l.length c, .agg #[.int .i64 x.f0, .int .u8 x.f1, .int .i64 x.f2, .int .i64 x.f3, .int .i64 x.f4.f0, .int .i64 x.f4.f1, .int .i64 x.f5.f0, .int .i64 x.f5.f1, .int .i64 x.f6.f0, .int .i64 x.f6.f1, .int .i64 x.f7]] w (RetInt (postS x l) w) := by
  have hu := Try.underlying36
  have hu1 := Try.underlying23
  have hbel := (Below.refl w.heap.size w).alloc (Nat.le_refl _) (.cells #[.int .i64 x.f0, .int .u8 x.f1, .int .i64 x.f2, .int .i64 x.f3, .int .i64 x.f4.f0, .int .i64 x.f4.f1, .int .i64 x.f5.f0, .int .i64 x.f5.f1, .int .i64 x.f6.f0, .int .i64 x.f6.f1, .int .i64 x.f7] 36)
  have e0 := World.alloc_heap_new w (.cells #[.int .i64 x.f0, .int .u8 x.f1, .int .i64 x.f2, .int .i64 x.f3, .int .i64 x.f4.f0, .int .i64 x.f4.f1, .int .i64 x.f5.f0, .int .i64 x.f5.f1, .int .i64 x.f6.f0, .int .i64 x.f6.f1, .int .i64 x.f7] 36)
  have HR := hid hr
  go_enter Try.func23, Try.ntmps23
  go_upto_region 1 with fail
  have HE := hid (And.intro hbel e0)
  clear hbel e0 hr
  generalize w.alloc (.cells #[.int .i64 x.f0, .int .u8 x.f1, .int .i64 x.f2, .int .i64 x.f3, .int .i64 x.f4.f0, .int .i64 x.f4.f1, .int .i64 x.f5.f0, .int .i64 x.f5.f1, .int .i64 x.f6.f0, .int .i64 x.f6.f1, .int .i64 x.f7] 36) = W1 at *
  have y0 := blkCell HE.out.2 0
  have y1 := blkCell HE.out.2 1
  simp at y0 y1
  by_cases a0 : x.f1 < 1
  · have d0 : decide (x.f1 < 1) = true := decide_eq_true a0
    have HS := hid (show postS x l = 1 by unfold postS; rw [if_neg (by rintro ⟨h, _⟩; omega)])
    clear a0
    go_wp2
    go_ret
    exact ⟨ret_int HS.out.symm, HE.out.1⟩
  have d0 : decide (x.f1 < 1) = false := decide_eq_false a0
  by_cases a1 : 8 < x.f1
  · have d1 : decide (8 < x.f1) = true := decide_eq_true a1
    have HS := hid (show postS x l = 1 by unfold postS; rw [if_neg (by rintro ⟨h, _⟩; omega)])
    clear a0 a1
    go_wp2
    go_ret
    exact ⟨ret_int HS.out.symm, HE.out.1⟩
  have d1 : decide (8 < x.f1) = false := decide_eq_false a1
  by_cases a2 : x.f0 < 0
  · have d2 : decide (x.f0 < 0) = true := decide_eq_true a2
    have HS := hid (show postS x l = 1 by unfold postS betw; rw [if_neg (by rintro ⟨_, h⟩; simp at h; omega)])
    clear a0 a1 a2
    go_wp2
    go_ret
    exact ⟨ret_int HS.out.symm, HE.out.1⟩
  have d2 : decide (x.f0 < 0) = false := decide_eq_false a2
  by_cases a3 : 1000000000 < x.f0
  · have d3 : decide (1000000000 < x.f0) = true := decide_eq_true a3
    have HS := hid (show postS x l = 1 by unfold postS betw; rw [if_neg (by rintro ⟨_, h⟩; simp at h; omega)])
    clear a0 a1 a2 a3
    go_wp2
    go_ret
    exact ⟨ret_int HS.out.symm, HE.out.1⟩
  have d3 : decide (1000000000 < x.f0) = false := decide_eq_false a3
  have HK := hid (show 1 ≤ x.f1 ∧ x.f1 ≤ 8 by omega)
  have HS0 := hid (show postS x l = if lateS x l = true then 8 else if (decide (1 ≤ x.f1 ∧ x.f1 ≤ 5) && !(spanOk x.f4 1000000)) = true then 1 else if entryErr x l = 0 then (if eqP (bareR x) x = true then 0 else 1) else entryErr x l by
    unfold postS betw
    rw [if_pos ⟨HK.out, by simp; omega⟩])
  clear a0 a1 a2 a3
  go_upto_region 3 with fail
  clear d0 d1 d2 d3 y0 y1
  have HWQ := hid (rfl : W1 = W1)
  clear HWQ
  generalize W1 = WQ at *
  go_cut [38] from 24 to 37 (fun v38 wc => v38 = .bool (lateS x l) ∧ Hid (Below WQ.heap.size WQ wc))
  case first =>
    rcases (show l.length = 0 ∨ ∃ m, l.length = m + 1 by cases l.length with | zero => exact .inl rfl | succ m => exact .inr ⟨m, rfl⟩) with hl0 | ⟨m, hl0⟩
    ·
      have s0 : decide ((0 : Int) < (l.length : Int)) = false := decide_eq_false (by omega)
      have HLS := hid (show lateS x l = false by unfold lateS; rw [show decide (0 < l.length) = false from decide_eq_false (by omega)]; rfl)
      have HLN := hid (List.eq_nil_of_length_eq_zero hl0)
      clear hl0
      refine wp_flow [[], [0], [1, 0], [2, 1, 0], [3, 2, 1, 0], [3, 2, 1, 0], [5, 3, 2, 1, 0], [6, 5, 3, 2, 1, 0], [4, 3, 2, 1, 0, 7, 6, 5], [8, 4, 3, 2, 1, 0, 7, 6, 5], [9, 8, 4, 3, 2, 1, 0, 7, 6, 5], [3, 2, 1, 0], [11, 3, 2, 1, 0], [10, 9, 8, 4, 3, 2, 1, 0, 7, 6, 5, 12, 11], [3, 2, 1, 0, 13, 10, 9, 8, 4, 7, 6, 5, 12, 11]] 15
        (fun V => Below WQ.heap.size WQ V)
        { tmps := #[.slice A l.length c, .agg #[.int .i64 x.f0, .int .u8 x.f1, .int .i64 x.f2, .int .i64 x.f3, .int .i64 x.f4.f0, .int .i64 x.f4.f1, .int .i64 x.f5.f0, .int .i64 x.f5.f1, .int .i64 x.f6.f0, .int .i64 x.f6.f1, .int .i64 x.f7], undef, .pointer (some ⟨w.heap.size, 0, none⟩), .int .i64 0, undef, .pointer (some ⟨w.heap.size, 1, none⟩), .int .u8 x.f1, .bool false, .bool false, .pointer (some ⟨w.heap.size, 1, none⟩), .int .u8 x.f1, .bool false, .bool false, .bool false, .pointer (some ⟨w.heap.size, 0, none⟩), .int .i64 x.f0, .bool false, .bool false, .bool false, .pointer (some ⟨w.heap.size, 0, none⟩), .int .i64 x.f0, .bool false, .bool false, .slice A l.length c, .int .i64 ((l.length : Int)), .bool false, .bool false, undef, undef, undef, undef, undef, undef, undef, undef, undef, undef, .bool false, undef, undef, undef, undef, undef, undef, undef, undef, undef, undef, undef, undef, undef, undef, undef, undef, undef, undef, undef, undef, undef, undef, undef, undef, undef, undef, undef, undef, undef, undef, undef, undef, undef, undef, undef, undef, undef, undef, undef, undef, undef, undef, undef, undef, undef, undef, undef, undef, undef, undef, undef, undef, undef, undef, undef, undef, undef, undef, undef, undef], defers := [] }
        mixed (by kernel_rfl) rfl (Ahead.of3 24 39 rfl rfl (by kernel_rfl) rfl rfl) ?_ (AllFlow.ops rfl ?_) rfl ?_
      · exact (Below.refl _ _).drew
      · refine ⟨?_, ?_, ?_, ?_, ?_, ?_, ?_, ?_, ?_, ?_, ?_, ?_, ?_, ?_, ?_, trivial⟩
        · exact .val 24 _ rfl rfl fun V hB_ => by go_simp
        · exact .val 25 _ rfl rfl fun V hB_ => by go_simp
        · exact .val 26 _ rfl rfl fun V hB_ => by go_simp <;> exact HLN.out
        · exact .val 27 _ rfl rfl fun V hB_ => by go_simp
        · exact .off 28 rfl rfl
        · exact .off 29 rfl rfl
        · exact .off 30 rfl rfl
        · exact .off 31 rfl rfl
        · exact .off 32 rfl rfl
        · exact .off 33 rfl rfl
        · exact .off 34 rfl rfl
        · exact .off 35 rfl rfl
        · exact .off 36 rfl rfl
        · exact .off 37 rfl rfl
        · exact .val 38 _ rfl rfl fun V hB_ => by go_simp
      rintro V7 hB_
      go_wp2
      go_meet
      case rel => exact ⟨by rw [HLS.out], hid hB_⟩
    ·
      have s0 : decide ((0 : Int) < (l.length : Int)) = true := decide_eq_true (by omega)
      have hri := at_T36 (Kd.C_below HR.out HE.out.1) (m : Int) (by omega) (by omega)
      rw [rdP (show m < l.length by omega)] at hri
      simp only [Int.toNat_natCast] at hri
      obtain ⟨ad, rfl, m0, m1, m2, m3, m4, m5, m6, m7, m8, m9, m10⟩ := hri
      clear m1 m2 m3 m4 m5 m6 m7 m8 m9 m10
      obtain ⟨xp, hxp⟩ : ∃ xp, l[m] = xp := ⟨_, rfl⟩
      rw [hxp] at m0
      have HLS := hid (show lateS x l = decide (x.f0 < xp.f0) by
        unfold lateS
        rw [show decide (0 < l.length) = true from decide_eq_true (by omega), show l.length - 1 = m by omega]
        simp [List.getD, show m < l.length by omega, hxp])
      have hk1 : IntKind.i64.wrap ((l.length : Int) - 1) = (m : Int) := by rw [wrap_i, wrap64_id (by omega) (by omega)]; omega
      have hld : decide ((m : Int) < (l.length : Int)) = true := decide_eq_true (by omega)
      have hlm : m < l.length := by omega
      have hlp : 0 < l.length := by omega
      clear hl0 hxp
      refine wp_flow [[], [0], [1, 0], [2, 1, 0], [3, 2, 1, 0], [3, 2, 1, 0], [5, 3, 2, 1, 0], [6, 5, 3, 2, 1, 0], [4, 3, 2, 1, 0, 7, 6, 5], [8, 4, 3, 2, 1, 0, 7, 6, 5], [9, 8, 4, 3, 2, 1, 0, 7, 6, 5], [3, 2, 1, 0], [11, 3, 2, 1, 0], [10, 9, 8, 4, 3, 2, 1, 0, 7, 6, 5, 12, 11], [3, 2, 1, 0, 13, 10, 9, 8, 4, 7, 6, 5, 12, 11]] 15
        (fun V => V.cell? ⟨w.heap.size, 0, none⟩ = some (.int .i64 x.f0) ∧ V.cell? (ad.add (m * 11)) = some (.int .i64 xp.f0) ∧ Below WQ.heap.size WQ V)
        { tmps := #[.slice (some ad) l.length c, .agg #[.int .i64 x.f0, .int .u8 x.f1, .int .i64 x.f2, .int .i64 x.f3, .int .i64 x.f4.f0, .int .i64 x.f4.f1, .int .i64 x.f5.f0, .int .i64 x.f5.f1, .int .i64 x.f6.f0, .int .i64 x.f6.f1, .int .i64 x.f7], undef, .pointer (some ⟨w.heap.size, 0, none⟩), .int .i64 0, undef, .pointer (some ⟨w.heap.size, 1, none⟩), .int .u8 x.f1, .bool false, .bool false, .pointer (some ⟨w.heap.size, 1, none⟩), .int .u8 x.f1, .bool false, .bool false, .bool false, .pointer (some ⟨w.heap.size, 0, none⟩), .int .i64 x.f0, .bool false, .bool false, .bool false, .pointer (some ⟨w.heap.size, 0, none⟩), .int .i64 x.f0, .bool false, .bool false, .slice (some ad) l.length c, .int .i64 ((l.length : Int)), .bool true, .bool true, .slice (some ad) l.length c, .slice (some ad) l.length c, .int .i64 ((l.length : Int)), .int .i64 ((m : Int)), .pointer (some (ad.add (m * 11))), .pointer (some (ad.add (m * 11))), .int .i64 xp.f0, .pointer (some ⟨w.heap.size, 0, none⟩), .int .i64 x.f0, .bool (decide (x.f0 < xp.f0)), .bool (decide (x.f0 < xp.f0)), undef, undef, undef, undef, undef, undef, undef, undef, undef, undef, undef, undef, undef, undef, undef, undef, undef, undef, undef, undef, undef, undef, undef, undef, undef, undef, undef, undef, undef, undef, undef, undef, undef, undef, undef, undef, undef, undef, undef, undef, undef, undef, undef, undef, undef, undef, undef, undef, undef, undef, undef, undef, undef, undef, undef, undef, undef, undef, undef, undef], defers := [] }
        mixed (by kernel_rfl) rfl (Ahead.of3 24 39 rfl rfl (by kernel_rfl) rfl rfl) ?_ (AllFlow.ops rfl ?_) rfl ?_
      · exact ⟨blkCell HE.out.2 0, m0, (Below.refl _ _).drew⟩
      · refine ⟨?_, ?_, ?_, ?_, ?_, ?_, ?_, ?_, ?_, ?_, ?_, ?_, ?_, ?_, ?_, trivial⟩
        · exact .val 24 _ rfl rfl fun V ⟨y0, x0, hB_⟩ => by go_simp
        · exact .val 25 _ rfl rfl fun V ⟨y0, x0, hB_⟩ => by go_simp
        · exact .val 26 _ rfl rfl fun V ⟨y0, x0, hB_⟩ => by go_simp
        · exact .val 27 _ rfl rfl fun V ⟨y0, x0, hB_⟩ => by go_simp
        · exact .val 28 _ rfl rfl fun V ⟨y0, x0, hB_⟩ => by go_simp
        · exact .val 29 _ rfl rfl fun V ⟨y0, x0, hB_⟩ => by go_simp
        · exact .val 30 _ rfl rfl fun V ⟨y0, x0, hB_⟩ => by go_simp
        · exact .val 31 _ rfl rfl fun V ⟨y0, x0, hB_⟩ => by go_simp <;> exact hk1
        · exact .val 32 _ rfl rfl fun V ⟨y0, x0, hB_⟩ => by go_simp <;> exact fun hh => absurd hh (by omega)
        · exact .val 33 _ rfl rfl fun V ⟨y0, x0, hB_⟩ => by go_simp
        · exact .val 34 _ rfl rfl fun V ⟨y0, x0, hB_⟩ => by go_simp
        · exact .val 35 _ rfl rfl fun V ⟨y0, x0, hB_⟩ => by go_simp
        · exact .val 36 _ rfl rfl fun V ⟨y0, x0, hB_⟩ => by go_simp
        · exact .val 37 _ rfl rfl fun V ⟨y0, x0, hB_⟩ => by go_simp
        · exact .val 38 _ rfl rfl fun V ⟨y0, x0, hB_⟩ => by go_simp
      rintro V7 ⟨y0, x0, hB_⟩
      go_wp2
      go_meet
      case rel => exact ⟨by rw [HLS.out], hid hB_⟩
  case rest =>
    obtain ⟨rfl, hbc⟩ := hcut
    have hb := hbc.out
    have HE' := hid (And.intro (HE.out.1.trans (hb.mono HE.out.1.size)) (heap_grow HE.out.2 hb))
    clear HE
    have HE := hid HE'.out
    clear HE'
    clear hbc hb
    cases hlt : lateS x l with
    | true =>
      have HS := hid (show postS x l = 8 by rw [HS0.out, if_pos hlt])
      clear hlt
      go_wp2
      go_ret
      exact ⟨ret_int HS.out.symm, HE.out.1⟩
    | false =>
      have HS1 := hid (show postS x l = if (decide (1 ≤ x.f1 ∧ x.f1 ≤ 5) && !(spanOk x.f4 1000000)) = true then 1 else if entryErr x l = 0 then (if eqP (bareR x) x = true then 0 else 1) else entryErr x l by rw [HS0.out, if_neg (by rw [hlt]; decide)])
      clear hlt
      go_upto_region 5 with fail
      go_cut [47] from 39 to 46 (fun v47 wq => v47 = .bool (decide (1 ≤ x.f1 ∧ x.f1 ≤ 5) && !(spanOk x.f4 1000000)) ∧ Hid (Below wc.heap.size wc wq))
      case first =>
        have y1 := blkCell HE.out.2 1
        have y4 := blkCell HE.out.2 4
        have y5 := blkCell HE.out.2 5
        simp at y1 y4 y5
        go_wp2_with fail
        refine (weighsR_any x.f1 _).mono ?_
        rintro e W5 ⟨rfl, hb⟩
        have e5 := heap_grow HE.out.2 hb
        have HB5 := hid hb
        clear y1 y4 y5
        have y4 := blkCell e5 4
        have y5 := blkCell e5 5
        simp at y4 y5
        clear e5 hb
        generalize decide (1 ≤ x.f1 ∧ x.f1 ≤ 5) = wt at *
        cases wt with
        | false =>
          go_wp2
          go_meet
          case rel => exact ⟨rfl, HB5⟩
        | true =>
          go_wp2_with fail
          refine (spanR_any x.f4 _).mono ?_
          rintro e W6 ⟨rfl, hb⟩
          have HB6 := hid (HB5.out.trans (hb.mono HB5.out.size))
          clear hb
          go_wp2
          go_meet
          case rel => exact ⟨rfl, HB6⟩
      case rest =>
        obtain ⟨rfl, hbc⟩ := hcut
        have hb := hbc.out
        have HE' := hid (And.intro (HE.out.1.trans (hb.mono HE.out.1.size)) (heap_grow HE.out.2 hb))
        clear HE
        have HE := hid HE'.out
        clear HE'
        clear hbc hb
        cases hwt : (decide (1 ≤ x.f1 ∧ x.f1 ≤ 5) && !(spanOk x.f4 1000000)) with
        | true =>
          have HS := hid (show postS x l = 1 by rw [HS1.out, if_pos hwt])
          clear hwt
          go_wp2
          go_ret
          exact ⟨ret_int HS.out.symm, HE.out.1⟩
        | false =>
          have HS2 := hid (show postS x l = if entryErr x l = 0 then (if eqP (bareR x) x = true then 0 else 1) else entryErr x l by rw [HS1.out, if_neg (by rw [hwt]; decide)])
          clear hwt
          rename World => W7
          have y1 := blkCell HE.out.2 1
          simp at y1
          go_upto_block 0 with fail
          clear y1
          go_cut [5] from 50 to 72 (fun v5 wq => v5 = .int .i64 (kindErr x l) ∧ Hid (Below W7.heap.size W7 wq))
          case first =>
            by_cases k1 : x.f1 = 1
            · have f1 : (x.f1 == 1) = true := by simpa using k1
              have HKE := hid (show kindErr x l = partsErr x by unfold kindErr; rw [if_pos k1])
              clear k1
              have y0 := blkCell HE.out.2 0
              have y1 := blkCell HE.out.2 1
              have y2 := blkCell HE.out.2 2
              have y3 := blkCell HE.out.2 3
              have y4 := blkCell HE.out.2 4
              have y5 := blkCell HE.out.2 5
              have y6 := blkCell HE.out.2 6
              have y7 := blkCell HE.out.2 7
              have y8 := blkCell HE.out.2 8
              have y9 := blkCell HE.out.2 9
              have y10 := blkCell HE.out.2 10
              simp at y0 y1 y2 y3 y4 y5 y6 y7 y8 y9 y10
              go_wp2_with fail
              refine (partsR_any x _).mono ?_
              rintro e W8 ⟨rfl, hb⟩
              have HB8 := hid hb
              clear hb y0 y1 y2 y3 y4 y5 y6 y7 y8 y9 y10
              go_wp2
              go_meet
              case rel => exact ⟨by rw [HKE.out], HB8⟩
            · have f1 : (x.f1 == 1) = false := by simpa using k1
              by_cases k2 : x.f1 = 2
              · have f2 : (x.f1 == 2) = true := by simpa using k2
                have HKE := hid (show kindErr x l = if x.f2 < 0 ∨ (cnt isHeap l : Int) ≤ x.f2 then 7 else 0 by unfold kindErr; rw [if_neg k1, if_pos k2])
                clear k1 k2
                go_upto_region 12 with fail
                generalize W7 = WQ at *
                by_cases g0 : x.f2 < 0
                · have s0 : decide (x.f2 < 0) = true := decide_eq_true g0
                  have HKE := hid (show kindErr x l = 7 by rw [HKE.out, if_pos (.inl g0)])
                  clear g0
                  refine wp_flow [[], [0], [1, 0], [2, 1, 0], [3, 2, 1, 0], [4, 3, 2, 1, 0], [3, 2, 1, 0], [6, 3, 2, 1, 0], [5, 4, 3, 2, 1, 0, 7, 6], [3, 2, 1, 0, 8, 5, 4, 7, 6]] 10
                    (fun V => V.cell? ⟨w.heap.size, 0, none⟩ = some (.int .i64 x.f0) ∧ V.cell? ⟨w.heap.size, 1, none⟩ = some (.int .u8 x.f1) ∧ V.cell? ⟨w.heap.size, 2, none⟩ = some (.int .i64 x.f2) ∧ Below WQ.heap.size WQ V)
                    { tmps := #[.slice A l.length c, .agg #[.int .i64 x.f0, .int .u8 x.f1, .int .i64 x.f2, .int .i64 x.f3, .int .i64 x.f4.f0, .int .i64 x.f4.f1, .int .i64 x.f5.f0, .int .i64 x.f5.f1, .int .i64 x.f6.f0, .int .i64 x.f6.f1, .int .i64 x.f7], undef, .pointer (some ⟨w.heap.size, 0, none⟩), .int .i64 0, .int .i64 0, .pointer (some ⟨w.heap.size, 1, none⟩), .int .u8 x.f1, .bool false, .bool false, .pointer (some ⟨w.heap.size, 1, none⟩), .int .u8 x.f1, .bool false, .bool false, .bool false, .pointer (some ⟨w.heap.size, 0, none⟩), .int .i64 x.f0, .bool false, .bool false, .bool false, .pointer (some ⟨w.heap.size, 0, none⟩), .int .i64 x.f0, .bool false, .bool false, u24, u25, u26, u27, u28, u29, u30, u31, u32, u33, u34, u35, u36, u37, .bool false, u39, u40, u41, u42, u43, u44, u45, u46, .bool false, .pointer (some ⟨w.heap.size, 1, none⟩), .int .u8 x.f1, .bool false, .bool false, undef, undef, .bool true, .bool true, .pointer (some ⟨w.heap.size, 2, none⟩), .int .i64 x.f2, .bool true, .bool true, undef, undef, undef, undef, undef, .bool true, undef, undef, undef, undef, undef, undef, undef, undef, undef, undef, undef, undef, undef, undef, undef, undef, undef, undef, undef, undef, undef, undef, undef, undef, undef, undef, undef, undef, undef, undef, undef, undef, undef], defers := [] }
                    mixed (by kernel_rfl) rfl (Ahead.of3 56 66 rfl rfl (by kernel_rfl) rfl rfl) ?_ (AllFlow.ops rfl ?_) rfl ?_
                  · exact ⟨blkCell HE.out.2 0, blkCell HE.out.2 1, blkCell HE.out.2 2, (Below.refl _ _).drew⟩
                  · refine ⟨?_, ?_, ?_, ?_, ?_, ?_, ?_, ?_, ?_, ?_, trivial⟩
                    · exact .val 56 _ rfl rfl fun V ⟨y0, y1, y2, hB_⟩ => by go_simp
                    · exact .val 57 _ rfl rfl fun V ⟨y0, y1, y2, hB_⟩ => by go_simp
                    · exact .val 58 _ rfl rfl fun V ⟨y0, y1, y2, hB_⟩ => by go_simp
                    · exact .val 59 _ rfl rfl fun V ⟨y0, y1, y2, hB_⟩ => by go_simp
                    · exact .off 60 rfl rfl
                    · exact .off 61 rfl rfl
                    · exact .off 62 rfl rfl
                    · exact .off 63 rfl rfl
                    · exact .off 64 rfl rfl
                    · exact .val 65 _ rfl rfl fun V ⟨y0, y1, y2, hB_⟩ => by go_simp
                  rintro V7 ⟨y0, y1, y2, hB_⟩
                  go_wp2
                  go_meet
                  case rel => exact ⟨by rw [HKE.out], hid hB_⟩
                · have s0 : decide (x.f2 < 0) = false := decide_eq_false g0
                  refine wp_flow [[], [0], [1, 0], [2, 1, 0], [3, 2, 1, 0], [4, 3, 2, 1, 0], [3, 2, 1, 0], [6, 3, 2, 1, 0], [5, 4, 3, 2, 1, 0, 7, 6], [3, 2, 1, 0, 8, 5, 4, 7, 6]] 10
                    (fun V => V.cell? ⟨w.heap.size, 0, none⟩ = some (.int .i64 x.f0) ∧ V.cell? ⟨w.heap.size, 1, none⟩ = some (.int .u8 x.f1) ∧ V.cell? ⟨w.heap.size, 2, none⟩ = some (.int .i64 x.f2) ∧ Below WQ.heap.size WQ V)
                    { tmps := #[.slice A l.length c, .agg #[.int .i64 x.f0, .int .u8 x.f1, .int .i64 x.f2, .int .i64 x.f3, .int .i64 x.f4.f0, .int .i64 x.f4.f1, .int .i64 x.f5.f0, .int .i64 x.f5.f1, .int .i64 x.f6.f0, .int .i64 x.f6.f1, .int .i64 x.f7], undef, .pointer (some ⟨w.heap.size, 0, none⟩), .int .i64 0, .int .i64 0, .pointer (some ⟨w.heap.size, 1, none⟩), .int .u8 x.f1, .bool false, .bool false, .pointer (some ⟨w.heap.size, 1, none⟩), .int .u8 x.f1, .bool false, .bool false, .bool false, .pointer (some ⟨w.heap.size, 0, none⟩), .int .i64 x.f0, .bool false, .bool false, .bool false, .pointer (some ⟨w.heap.size, 0, none⟩), .int .i64 x.f0, .bool false, .bool false, u24, u25, u26, u27, u28, u29, u30, u31, u32, u33, u34, u35, u36, u37, .bool false, u39, u40, u41, u42, u43, u44, u45, u46, .bool false, .pointer (some ⟨w.heap.size, 1, none⟩), .int .u8 x.f1, .bool false, .bool false, undef, undef, .bool true, .bool true, .pointer (some ⟨w.heap.size, 2, none⟩), .int .i64 x.f2, .bool false, .bool false, .pointer (some ⟨w.heap.size, 2, none⟩), .int .i64 x.f2, .slice A l.length c, .int .i64 (((cnt isHeap l : Nat) : Int)), .bool (decide (((cnt isHeap l : Nat) : Int) ≤ x.f2)), .bool (decide (((cnt isHeap l : Nat) : Int) ≤ x.f2)), undef, undef, undef, undef, undef, undef, undef, undef, undef, undef, undef, undef, undef, undef, undef, undef, undef, undef, undef, undef, undef, undef, undef, undef, undef, undef, undef, undef, undef, undef, undef, undef, undef], defers := [] }
                    mixed (by kernel_rfl) rfl (Ahead.of3 56 66 rfl rfl (by kernel_rfl) rfl rfl) ?_ (AllFlow.ops rfl ?_) rfl ?_
                  · exact ⟨blkCell HE.out.2 0, blkCell HE.out.2 1, blkCell HE.out.2 2, (Below.refl _ _).drew⟩
                  · refine ⟨?_, ?_, ?_, ?_, ?_, ?_, ?_, ?_, ?_, ?_, trivial⟩
                    · exact .val 56 _ rfl rfl fun V ⟨y0, y1, y2, hB_⟩ => by go_simp
                    · exact .val 57 _ rfl rfl fun V ⟨y0, y1, y2, hB_⟩ => by go_simp
                    · exact .val 58 _ rfl rfl fun V ⟨y0, y1, y2, hB_⟩ => by go_simp
                    · exact .val 59 _ rfl rfl fun V ⟨y0, y1, y2, hB_⟩ => by go_simp
                    · exact .val 60 _ rfl rfl fun V ⟨y0, y1, y2, hB_⟩ => by go_simp
                    · exact .val 61 _ rfl rfl fun V ⟨y0, y1, y2, hB_⟩ => by go_simp
                    · exact .val 62 _ rfl rfl fun V ⟨y0, y1, y2, hB_⟩ => by go_simp
                    · refine .call 63 (.int .i64 (((cnt isHeap l : Nat) : Int))) 48 #[.slice A l.length c] rfl rfl (fun V ⟨y0, y1, y2, hB_⟩ => by go_simp) fun V ⟨y0, y1, y2, hB_⟩ => ?_
                      refine (heapsR_any A c l _ (Kd.C_below HR.out (HE.out.1.trans (hB_.mono HE.out.1.size))) hc hl).mono ?_
                      rintro e w' ⟨rfl, hb⟩
                      exact ⟨rfl, cell_grow y0 hb, cell_grow y1 hb, cell_grow y2 hb, hB_.trans (hb.mono hB_.size)⟩
                    · exact .val 64 _ rfl rfl fun V ⟨y0, y1, y2, hB_⟩ => by go_simp
                    · exact .val 65 _ rfl rfl fun V ⟨y0, y1, y2, hB_⟩ => by go_simp
                  rintro V7 ⟨y0, y1, y2, hB_⟩
                  by_cases g1 : (cnt isHeap l : Int) ≤ x.f2
                  · have s1 : decide ((cnt isHeap l : Int) ≤ x.f2) = true := decide_eq_true g1
                    have HKE := hid (show kindErr x l = 7 by rw [HKE.out, if_pos (.inr g1)])
                    clear g0 g1
                    go_wp2
                    go_meet
                    case rel => exact ⟨by rw [HKE.out], hid hB_⟩
                  · have s1 : decide ((cnt isHeap l : Int) ≤ x.f2) = false := decide_eq_false g1
                    have HKE := hid (show kindErr x l = 0 by rw [HKE.out, if_neg (by rintro (h | h) <;> omega)])
                    clear g0 g1
                    go_wp2
                    go_meet
                    case rel => exact ⟨by rw [HKE.out], hid hB_⟩
              · have f2 : (x.f1 == 2) = false := by simpa using k2
                by_cases k3 : x.f1 = 4 ∨ x.f1 = 7 ∨ x.f1 = 8
                · have HKE := hid (show kindErr x l = lotErr x l by unfold kindErr; rw [if_neg k1, if_neg k2, if_pos k3])
                  have hlot := lotR_any x A c l W7 (Kd.C_below HR.out HE.out.1) hc hl k3
                  have HLOT := hid hlot
                  clear hlot
                  have y0 := blkCell HE.out.2 0
                  have y1 := blkCell HE.out.2 1
                  have y2 := blkCell HE.out.2 2
                  have y3 := blkCell HE.out.2 3
                  have y4 := blkCell HE.out.2 4
                  have y5 := blkCell HE.out.2 5
                  have y6 := blkCell HE.out.2 6
                  have y7 := blkCell HE.out.2 7
                  have y8 := blkCell HE.out.2 8
                  have y9 := blkCell HE.out.2 9
                  have y10 := blkCell HE.out.2 10
                  simp at y0 y1 y2 y3 y4 y5 y6 y7 y8 y9 y10
                  rcases k3 with k3 | k3 | k3
                  · have g4 : (x.f1 == 4) = true := by simp [k3]
                    clear k1 k2 k3
                    go_wp2_with fail
                    refine HLOT.out.mono ?_
                    rintro e W8 ⟨rfl, hb⟩
                    have HB8 := hid hb
                    clear hb y0 y1 y2 y3 y4 y5 y6 y7 y8 y9 y10
                    go_wp2
                    go_meet
                    case rel => exact ⟨by rw [HKE.out], HB8⟩
                  · have g4 : (x.f1 == 4) = false := by simp [k3]
                    have g7 : (x.f1 == 7) = true := by simp [k3]
                    clear k1 k2 k3
                    go_wp2_with fail
                    refine HLOT.out.mono ?_
                    rintro e W8 ⟨rfl, hb⟩
                    have HB8 := hid hb
                    clear hb y0 y1 y2 y3 y4 y5 y6 y7 y8 y9 y10
                    go_wp2
                    go_meet
                    case rel => exact ⟨by rw [HKE.out], HB8⟩
                  · have g4 : (x.f1 == 4) = false := by simp [k3]
                    have g7 : (x.f1 == 7) = false := by simp [k3]
                    have g8 : (x.f1 == 8) = true := by simp [k3]
                    clear k1 k2 k3
                    go_wp2_with fail
                    refine HLOT.out.mono ?_
                    rintro e W8 ⟨rfl, hb⟩
                    have HB8 := hid hb
                    clear hb y0 y1 y2 y3 y4 y5 y6 y7 y8 y9 y10
                    go_wp2
                    go_meet
                    case rel => exact ⟨by rw [HKE.out], HB8⟩
                · have HKE := hid (show kindErr x l = 0 by unfold kindErr; rw [if_neg k1, if_neg k2, if_neg k3])
                  have g4 : (x.f1 == 4) = false := by simp; omega
                  have g7 : (x.f1 == 7) = false := by simp; omega
                  have g8 : (x.f1 == 8) = false := by simp; omega
                  clear k1 k2 k3
                  go_wp2
                  go_meet
                  case rel => exact ⟨by rw [HKE.out], hid (Below.refl _ _)⟩
          case rest =>
            obtain ⟨rfl, hbc⟩ := hcut
            have hb := hbc.out
            have HE' := hid (And.intro (HE.out.1.trans (hb.mono HE.out.1.size)) (heap_grow HE.out.2 hb))
            clear HE
            have HE := hid HE'.out
            clear HE'
            clear hbc hb
            have HEK := hid (entry_kind x l HK.out)
            rename World => W9
            obtain ⟨ke, hke⟩ : ∃ ke, kindErr x l = ke := ⟨_, rfl⟩
            rw [hke] at HEK
            rw [hke]
            clear hke
            go_upto_region 18 with fail
            go_cut [89] from 73 to 88 (fun v89 wq => v89 = .bool (fullB ke x l) ∧ Hid (Below W9.heap.size W9 wq))
            case first =>
              have y1 := blkCell HE.out.2 1
              simp at y1
              cases j0 : ke == 0 with
              | false =>
                have HF := hid (show fullB ke x l = false by unfold fullB; rw [j0]; rfl)
                go_wp2
                go_meet
                case rel => exact ⟨by rw [HF.out], hid (Below.refl _ _)⟩
              | true =>
                cases j1 : x.f1 == 1 with
                | true =>
                  have HF := hid (show fullB ke x l = decide (64 ≤ (cnt isHeap l : Int)) by unfold fullB; rw [j0, j1]; simp)
                  go_wp2_with fail
                  refine (heapsR_any A c l _ (Kd.C_below HR.out HE.out.1) hc hl).mono ?_
                  rintro e W8 ⟨rfl, hb⟩
                  have HB8 := hid hb
                  clear hb y1
                  go_wp2
                  go_meet
                  case rel => exact ⟨by rw [HF.out], HB8⟩
                | false =>
                  cases j5 : x.f1 == 5 with
                  | true =>
                    have HF := hid (show fullB ke x l = decide (64 ≤ (cnt isHeap l : Int)) by unfold fullB; rw [j0, j1, j5]; simp)
                    go_wp2_with fail
                    refine (heapsR_any A c l _ (Kd.C_below HR.out HE.out.1) hc hl).mono ?_
                    rintro e W8 ⟨rfl, hb⟩
                    have HB8 := hid hb
                    clear hb y1
                    go_wp2
                    go_meet
                    case rel => exact ⟨by rw [HF.out], HB8⟩
                  | false =>
                    have HF := hid (show fullB ke x l = false by unfold fullB; rw [j0, j1, j5]; rfl)
                    go_wp2
                    go_meet
                    case rel => exact ⟨by rw [HF.out], hid (Below.refl _ _)⟩
            case rest =>
              obtain ⟨rfl, hbc⟩ := hcut
              have hb := hbc.out
              have HE' := hid (And.intro (HE.out.1.trans (hb.mono HE.out.1.size)) (heap_grow HE.out.2 hb))
              clear HE
              have HE := hid HE'.out
              clear HE'
              clear hbc hb
              rename World => WQ
              cases hfu : fullB ke x l with
              | true =>
                have HS := hid (show postS x l = 3 by rw [HS2.out, HEK.out, hfu]; rfl)
                clear hfu
                go_upto_region 20 with fail
                refine wp_flow [[], [0], [1, 0], [2, 1, 0], [3, 2, 1, 0], [2, 1, 0], [4, 3, 2, 1, 0, 5], [2, 1, 0, 6, 4, 3, 5]] 8
                  (fun V => Below WQ.heap.size WQ V)
                  { tmps := #[.slice A l.length c, .agg #[.int .i64 x.f0, .int .u8 x.f1, .int .i64 x.f2, .int .i64 x.f3, .int .i64 x.f4.f0, .int .i64 x.f4.f1, .int .i64 x.f5.f0, .int .i64 x.f5.f1, .int .i64 x.f6.f0, .int .i64 x.f6.f1, .int .i64 x.f7], undef, .pointer (some ⟨w.heap.size, 0, none⟩), .int .i64 0, .int .i64 3, .pointer (some ⟨w.heap.size, 1, none⟩), .int .u8 x.f1, .bool false, .bool false, .pointer (some ⟨w.heap.size, 1, none⟩), .int .u8 x.f1, .bool false, .bool false, .bool false, .pointer (some ⟨w.heap.size, 0, none⟩), .int .i64 x.f0, .bool false, .bool false, .bool false, .pointer (some ⟨w.heap.size, 0, none⟩), .int .i64 x.f0, .bool false, .bool false, u24, u25, u26, u27, u28, u29, u30, u31, u32, u33, u34, u35, u36, u37, .bool false, u39, u40, u41, u42, u43, u44, u45, u46, .bool false, .pointer (some ⟨w.heap.size, 1, none⟩), .int .u8 x.f1, u50, u51, u52, u53, u54, u55, u56, u57, u58, u59, u60, u61, u62, u63, u64, u65, u66, u67, u68, u69, u70, u71, u72, u73, u74, u75, u76, u77, u78, u79, u80, u81, u82, u83, u84, u85, u86, u87, u88, .bool true, .int .i64 3, .bool false, .bool false, undef, undef, undef, undef, .bool false, undef], defers := [] }
                  mixed (by kernel_rfl) rfl (Ahead.of3 90 98 rfl rfl (by kernel_rfl) rfl rfl) ?_ (AllFlow.ops rfl ?_) rfl ?_
                · exact (Below.refl _ _).drew
                · refine ⟨?_, ?_, ?_, ?_, ?_, ?_, ?_, ?_, trivial⟩
                  · exact .val 90 _ rfl rfl fun V hB_ => by go_simp
                  · exact .val 91 _ rfl rfl fun V hB_ => by go_simp
                  · exact .val 92 _ rfl rfl fun V hB_ => by go_simp
                  · exact .off 93 rfl rfl
                  · exact .off 94 rfl rfl
                  · exact .off 95 rfl rfl
                  · exact .off 96 rfl rfl
                  · exact .val 97 _ rfl rfl fun V hB_ => by go_simp
                rintro V7 hB_
                have hb := hB_
                have HE' := hid (And.intro (HE.out.1.trans (hb.mono HE.out.1.size)) (heap_grow HE.out.2 hb))
                clear HE
                have HE := hid HE'.out
                clear HE'
                clear hb hB_
                go_wp2
                go_ret
                exact ⟨ret_int HS.out.symm, HE.out.1⟩
              | false =>
                have HS3 := hid (show postS x l = if ke = 0 then (if eqP (bareR x) x = true then 0 else 1) else ke by rw [HS2.out, HEK.out, hfu]; rfl)
                clear hfu
                cases j0 : ke == 0 with
                | false =>
                  have HS := hid (show postS x l = ke by rw [HS3.out, if_neg (by simpa using j0)])
                  go_upto_region 20 with fail
                  refine wp_flow [[], [0], [1, 0], [2, 1, 0], [3, 2, 1, 0], [2, 1, 0], [4, 3, 2, 1, 0, 5], [2, 1, 0, 6, 4, 3, 5]] 8
                    (fun V => Below WQ.heap.size WQ V)
                    { tmps := #[.slice A l.length c, .agg #[.int .i64 x.f0, .int .u8 x.f1, .int .i64 x.f2, .int .i64 x.f3, .int .i64 x.f4.f0, .int .i64 x.f4.f1, .int .i64 x.f5.f0, .int .i64 x.f5.f1, .int .i64 x.f6.f0, .int .i64 x.f6.f1, .int .i64 x.f7], undef, .pointer (some ⟨w.heap.size, 0, none⟩), .int .i64 0, .int .i64 ke, .pointer (some ⟨w.heap.size, 1, none⟩), .int .u8 x.f1, .bool false, .bool false, .pointer (some ⟨w.heap.size, 1, none⟩), .int .u8 x.f1, .bool false, .bool false, .bool false, .pointer (some ⟨w.heap.size, 0, none⟩), .int .i64 x.f0, .bool false, .bool false, .bool false, .pointer (some ⟨w.heap.size, 0, none⟩), .int .i64 x.f0, .bool false, .bool false, u24, u25, u26, u27, u28, u29, u30, u31, u32, u33, u34, u35, u36, u37, .bool false, u39, u40, u41, u42, u43, u44, u45, u46, .bool false, .pointer (some ⟨w.heap.size, 1, none⟩), .int .u8 x.f1, u50, u51, u52, u53, u54, u55, u56, u57, u58, u59, u60, u61, u62, u63, u64, u65, u66, u67, u68, u69, u70, u71, u72, u73, u74, u75, u76, u77, u78, u79, u80, u81, u82, u83, u84, u85, u86, u87, u88, .bool false, .int .i64 ke, .bool false, .bool false, undef, undef, undef, undef, .bool false, undef], defers := [] }
                    mixed (by kernel_rfl) rfl (Ahead.of3 90 98 rfl rfl (by kernel_rfl) rfl rfl) ?_ (AllFlow.ops rfl ?_) rfl ?_
                  · exact (Below.refl _ _).drew
                  · refine ⟨?_, ?_, ?_, ?_, ?_, ?_, ?_, ?_, trivial⟩
                    · exact .val 90 _ rfl rfl fun V hB_ => by go_simp
                    · exact .val 91 _ rfl rfl fun V hB_ => by go_simp
                    · exact .val 92 _ rfl rfl fun V hB_ => by go_simp
                    · exact .off 93 rfl rfl
                    · exact .off 94 rfl rfl
                    · exact .off 95 rfl rfl
                    · exact .off 96 rfl rfl
                    · exact .val 97 _ rfl rfl fun V hB_ => by go_simp
                  rintro V7 hB_
                  have hb := hB_
                  have HE' := hid (And.intro (HE.out.1.trans (hb.mono HE.out.1.size)) (heap_grow HE.out.2 hb))
                  clear HE
                  have HE := hid HE'.out
                  clear HE'
                  clear hb hB_
                  go_wp2
                  go_ret
                  exact ⟨ret_int HS.out.symm, HE.out.1⟩
                | true =>
                  obtain rfl : ke = 0 := by simpa using j0
                  have HS4 := hid (show postS x l = if eqP (bareR x) x = true then 0 else 1 by rw [HS3.out, if_pos rfl])
                  go_upto_region 20 with fail
                  refine wp_flow [[], [0], [1, 0], [2, 1, 0], [3, 2, 1, 0], [2, 1, 0], [4, 3, 2, 1, 0, 5], [2, 1, 0, 6, 4, 3, 5]] 8
                    (fun V => V.cell? ⟨w.heap.size, 0, none⟩ = some (.int .i64 x.f0) ∧ V.cell? ⟨w.heap.size, 1, none⟩ = some (.int .u8 x.f1) ∧ V.cell? ⟨w.heap.size, 2, none⟩ = some (.int .i64 x.f2) ∧ V.cell? ⟨w.heap.size, 3, none⟩ = some (.int .i64 x.f3) ∧ V.cell? ⟨w.heap.size, 4, none⟩ = some (.int .i64 x.f4.f0) ∧ V.cell? ⟨w.heap.size, 5, none⟩ = some (.int .i64 x.f4.f1) ∧ V.cell? ⟨w.heap.size, 6, none⟩ = some (.int .i64 x.f5.f0) ∧ V.cell? ⟨w.heap.size, 7, none⟩ = some (.int .i64 x.f5.f1) ∧ V.cell? ⟨w.heap.size, 8, none⟩ = some (.int .i64 x.f6.f0) ∧ V.cell? ⟨w.heap.size, 9, none⟩ = some (.int .i64 x.f6.f1) ∧ V.cell? ⟨w.heap.size, 10, none⟩ = some (.int .i64 x.f7) ∧ Below WQ.heap.size WQ V)
                    { tmps := #[.slice A l.length c, .agg #[.int .i64 x.f0, .int .u8 x.f1, .int .i64 x.f2, .int .i64 x.f3, .int .i64 x.f4.f0, .int .i64 x.f4.f1, .int .i64 x.f5.f0, .int .i64 x.f5.f1, .int .i64 x.f6.f0, .int .i64 x.f6.f1, .int .i64 x.f7], undef, .pointer (some ⟨w.heap.size, 0, none⟩), .int .i64 0, .int .i64 0, .pointer (some ⟨w.heap.size, 1, none⟩), .int .u8 x.f1, .bool false, .bool false, .pointer (some ⟨w.heap.size, 1, none⟩), .int .u8 x.f1, .bool false, .bool false, .bool false, .pointer (some ⟨w.heap.size, 0, none⟩), .int .i64 x.f0, .bool false, .bool false, .bool false, .pointer (some ⟨w.heap.size, 0, none⟩), .int .i64 x.f0, .bool false, .bool false, u24, u25, u26, u27, u28, u29, u30, u31, u32, u33, u34, u35, u36, u37, .bool false, u39, u40, u41, u42, u43, u44, u45, u46, .bool false, .pointer (some ⟨w.heap.size, 1, none⟩), .int .u8 x.f1, u50, u51, u52, u53, u54, u55, u56, u57, u58, u59, u60, u61, u62, u63, u64, u65, u66, u67, u68, u69, u70, u71, u72, u73, u74, u75, u76, u77, u78, u79, u80, u81, u82, u83, u84, u85, u86, u87, u88, .bool false, .int .i64 0, .bool true, .bool true, .agg #[.int .i64 x.f0, .int .u8 x.f1, .int .i64 x.f2, .int .i64 x.f3, .int .i64 x.f4.f0, .int .i64 x.f4.f1, .int .i64 x.f5.f0, .int .i64 x.f5.f1, .int .i64 x.f6.f0, .int .i64 x.f6.f1, .int .i64 x.f7], .agg #[.int .i64 ((bareR x).f0), .int .u8 (bareR x).f1, .int .i64 ((bareR x).f2), .int .i64 ((bareR x).f3), .int .i64 ((bareR x).f4.f0), .int .i64 ((bareR x).f4.f1), .int .i64 ((bareR x).f5.f0), .int .i64 ((bareR x).f5.f1), .int .i64 ((bareR x).f6.f0), .int .i64 ((bareR x).f6.f1), .int .i64 ((bareR x).f7)], .agg #[.int .i64 x.f0, .int .u8 x.f1, .int .i64 x.f2, .int .i64 x.f3, .int .i64 x.f4.f0, .int .i64 x.f4.f1, .int .i64 x.f5.f0, .int .i64 x.f5.f1, .int .i64 x.f6.f0, .int .i64 x.f6.f1, .int .i64 x.f7], .bool (!((bareR x).f0 == x.f0 && ((bareR x).f1 == x.f1 && ((bareR x).f2 == x.f2 && ((bareR x).f3 == x.f3 && (((bareR x).f4.f0 == x.f4.f0 && ((bareR x).f4.f1 == x.f4.f1)) && (((bareR x).f5.f0 == x.f5.f0 && ((bareR x).f5.f1 == x.f5.f1)) && (((bareR x).f6.f0 == x.f6.f0 && ((bareR x).f6.f1 == x.f6.f1)) && ((bareR x).f7 == x.f7))))))))), .bool (!((bareR x).f0 == x.f0 && ((bareR x).f1 == x.f1 && ((bareR x).f2 == x.f2 && ((bareR x).f3 == x.f3 && (((bareR x).f4.f0 == x.f4.f0 && ((bareR x).f4.f1 == x.f4.f1)) && (((bareR x).f5.f0 == x.f5.f0 && ((bareR x).f5.f1 == x.f5.f1)) && (((bareR x).f6.f0 == x.f6.f0 && ((bareR x).f6.f1 == x.f6.f1)) && ((bareR x).f7 == x.f7))))))))), undef], defers := [] }
                    mixed (by kernel_rfl) rfl (Ahead.of3 90 98 rfl rfl (by kernel_rfl) rfl rfl) ?_ (AllFlow.ops rfl ?_) rfl ?_
                  · exact ⟨blkCell HE.out.2 0, blkCell HE.out.2 1, blkCell HE.out.2 2, blkCell HE.out.2 3, blkCell HE.out.2 4, blkCell HE.out.2 5, blkCell HE.out.2 6, blkCell HE.out.2 7, blkCell HE.out.2 8, blkCell HE.out.2 9, blkCell HE.out.2 10, (Below.refl _ _).drew⟩
                  · refine ⟨?_, ?_, ?_, ?_, ?_, ?_, ?_, ?_, trivial⟩
                    · exact .val 90 _ rfl rfl fun V ⟨y0, y1, y2, y3, y4, y5, y6, y7, y8, y9, y10, hB_⟩ => by go_simp
                    · exact .val 91 _ rfl rfl fun V ⟨y0, y1, y2, y3, y4, y5, y6, y7, y8, y9, y10, hB_⟩ => by go_simp
                    · exact .val 92 _ rfl rfl fun V ⟨y0, y1, y2, y3, y4, y5, y6, y7, y8, y9, y10, hB_⟩ => by go_simp
                    · exact .val 93 _ rfl rfl fun V ⟨y0, y1, y2, y3, y4, y5, y6, y7, y8, y9, y10, hB_⟩ => by go_simp
                    · refine .call 94 (.agg #[.int .i64 ((bareR x).f0), .int .u8 (bareR x).f1, .int .i64 ((bareR x).f2), .int .i64 ((bareR x).f3), .int .i64 ((bareR x).f4.f0), .int .i64 ((bareR x).f4.f1), .int .i64 ((bareR x).f5.f0), .int .i64 ((bareR x).f5.f1), .int .i64 ((bareR x).f6.f0), .int .i64 ((bareR x).f6.f1), .int .i64 ((bareR x).f7)]) 50 #[.agg #[.int .i64 x.f0, .int .u8 x.f1, .int .i64 x.f2, .int .i64 x.f3, .int .i64 x.f4.f0, .int .i64 x.f4.f1, .int .i64 x.f5.f0, .int .i64 x.f5.f1, .int .i64 x.f6.f0, .int .i64 x.f6.f1, .int .i64 x.f7]] rfl rfl (fun V ⟨y0, y1, y2, y3, y4, y5, y6, y7, y8, y9, y10, hB_⟩ => by go_simp) fun V ⟨y0, y1, y2, y3, y4, y5, y6, y7, y8, y9, y10, hB_⟩ => ?_
                      refine (bareR_any x _ HK.out).mono ?_
                      rintro e w' ⟨rfl, hb⟩
                      exact ⟨rfl, cell_grow y0 hb, cell_grow y1 hb, cell_grow y2 hb, cell_grow y3 hb, cell_grow y4 hb, cell_grow y5 hb, cell_grow y6 hb, cell_grow y7 hb, cell_grow y8 hb, cell_grow y9 hb, cell_grow y10 hb, hB_.trans (hb.mono hB_.size)⟩
                    · exact .val 95 _ rfl rfl fun V ⟨y0, y1, y2, y3, y4, y5, y6, y7, y8, y9, y10, hB_⟩ => by go_simp
                    · exact .val 96 _ rfl rfl fun V ⟨y0, y1, y2, y3, y4, y5, y6, y7, y8, y9, y10, hB_⟩ => by go_simp
                    · exact .val 97 _ rfl rfl fun V ⟨y0, y1, y2, y3, y4, y5, y6, y7, y8, y9, y10, hB_⟩ => by go_simp
                  rintro V7 ⟨y0, y1, y2, y3, y4, y5, y6, y7, y8, y9, y10, hB_⟩
                  have hb := hB_
                  have HE' := hid (And.intro (HE.out.1.trans (hb.mono HE.out.1.size)) (heap_grow HE.out.2 hb))
                  clear HE
                  have HE := hid HE'.out
                  clear HE'
                  clear hb hB_ y0 y1 y2 y3 y4 y5 y6 y7 y8 y9 y10
                  have hpe := hid (show eqP (bareR x) x = ((bareR x).f0 == x.f0 && ((bareR x).f1 == x.f1 && ((bareR x).f2 == x.f2 && ((bareR x).f3 == x.f3 && (((bareR x).f4.f0 == x.f4.f0 && ((bareR x).f4.f1 == x.f4.f1)) && (((bareR x).f5.f0 == x.f5.f0 && ((bareR x).f5.f1 == x.f5.f1)) && (((bareR x).f6.f0 == x.f6.f0 && ((bareR x).f6.f1 == x.f6.f1)) && ((bareR x).f7 == x.f7)))))))) from rfl)
                  cases heq : ((bareR x).f0 == x.f0 && ((bareR x).f1 == x.f1 && ((bareR x).f2 == x.f2 && ((bareR x).f3 == x.f3 && (((bareR x).f4.f0 == x.f4.f0 && ((bareR x).f4.f1 == x.f4.f1)) && (((bareR x).f5.f0 == x.f5.f0 && ((bareR x).f5.f1 == x.f5.f1)) && (((bareR x).f6.f0 == x.f6.f0 && ((bareR x).f6.f1 == x.f6.f1)) && ((bareR x).f7 == x.f7)))))))) with
                  | true =>
                    have HS := hid (show postS x l = 0 by rw [HS4.out, if_pos (by rw [hpe.out, heq])])
                    clear hpe
                    go_wp2
                    go_ret
                    exact ⟨ret_int HS.out.symm, HE.out.1⟩
                  | false =>
                    have HS := hid (show postS x l = 1 by rw [HS4.out, if_neg (by rw [hpe.out, heq]; decide)])
                    clear hpe
                    go_wp2
                    go_ret
                    exact ⟨ret_int HS.out.symm, HE.out.1⟩
end Go.Proofs.Ytbmkbokkmmdjdaa
end
