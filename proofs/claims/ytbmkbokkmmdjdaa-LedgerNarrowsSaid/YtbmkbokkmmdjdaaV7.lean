-- M4 (wip/pack9.py)
import Derived.Test.YtbmkbokkmmdjdaaV6
section
namespace Go.Proofs.Ytbmkbokkmmdjdaa
open Go.RowKit Go.Proofs.YtbmkbokkmmdjdaaW.PrintWords Go.Proofs.YtbmkbokkmmdjdaaW.PrintLast Go.Proofs.YtbmkbokkmmdjdaaW.PrintMore
open Q Go.Shelf
attribute [local go_sem] Oper.semAt_some wide_depth wide_fn
set_option linter.unusedVariables false
set_option linter.unusedSimpArgs false
theorem within_any (a l h : Int) (w : World) : Calls Try.prog 38 #[.int .i64 a, .int .i64 l, .int .i64 h] w fun e w' => e = .returned (.bool (betw a l h)) ∧ w = w' := by
  by_cases h1 : l ≤ a
  · go_enter Try.func38, Try.ntmps38
    go_wp2
    go_ret
    exact ⟨by simp [betw, h1], rfl⟩
  · go_enter Try.func38, Try.ntmps38
    go_wp2
    go_ret
    exact ⟨by simp [betw]; omega, rfl⟩
def spanOk (s : S23) (m : Int) : Bool := betw s.f0 0 s.f1 && decide (s.f1 ≤ m)
theorem isSpan_any (s : S23) (m : Int) (w : World) : Calls Try.prog 32 #[.agg #[.int .i64 s.f0, .int .i64 s.f1], .int .i64 m] w (RetBool (spanOk s m) w) := by
  have HB := Below.refl w.heap.size w
  unfold spanOk
  cases hb : betw s.f0 0 s.f1 with
  | true =>
    go_enter Try.func32, Try.ntmps32
    go_wp2_with (first | (go_at_call 38; refine (within_any _ _ _ _).mono ?_; rintro e w' ⟨rfl, rfl⟩; rw [hb]))
    go_ret
    exact ⟨by first | rfl | simp, HB.alloc (Nat.le_refl _) _⟩
  | false =>
    go_enter Try.func32, Try.ntmps32
    go_wp2_with (first | (go_at_call 38; refine (within_any _ _ _ _).mono ?_; rintro e w' ⟨rfl, rfl⟩; rw [hb]))
    go_ret
    exact ⟨by first | rfl | simp, HB.alloc (Nat.le_refl _) _⟩
def thereErr (lot : Int) (l : List S36) : Int := if l.any (isLot 4 lot) = true then (if l.any (isLot 8 lot) = true then 10 else 0) else 7
set_option maxRecDepth 100000 in
theorem there_any (ho fi : S23) (A : Option Addr) (n c : Nat) (A1 : Option Addr) (c1 : Nat) (l : List S36) (lot : Int) (w : World) (hr : Kd.C k36 w A1 l.length l) (hl : l.length ≤ 1000000) :
    Calls Try.prog 26 #[.agg #[.int .i64 ho.f0, .int .i64 ho.f1, .int .i64 fi.f0, .int .i64 fi.f1, .slice A n c, .slice A1 l.length c1], .int .i64 lot] w (RetInt (thereErr lot l) w) := by
  have hu2 := Try.underlying67
  have HB := Below.refl w.heap.size w
  have hbel := hid (HB.alloc (Nat.le_refl _) (.cells #[.int .i64 ho.f0, .int .i64 ho.f1, .int .i64 fi.f0, .int .i64 fi.f1, .slice A n c, .slice A1 l.length c1] 67))
  have e0 := World.alloc_heap_new w (.cells #[.int .i64 ho.f0, .int .i64 ho.f1, .int .i64 fi.f0, .int .i64 fi.f1, .slice A n c, .slice A1 l.length c1] 67)
  go_enter Try.func26, Try.ntmps26
  go_wp2_with fail
  generalize w.alloc (.cells #[.int .i64 ho.f0, .int .i64 ho.f1, .int .i64 fi.f0, .int .i64 fi.f1, .slice A n c, .slice A1 l.length c1] 67) = W1 at *
  refine (lot_any ho fi A n c A1 c1 l 4 lot _ (Kd.C_below hr hbel.out) hl).mono ?_
  rintro e w2 ⟨rfl, hb⟩
  have e0 := heap_grow e0 hb
  have HB2 := hid (hbel.out.trans (hb.mono hbel.out.size))
  have y0 := blkCell e0 0
  have y1 := blkCell e0 1
  have y2 := blkCell e0 2
  have y3 := blkCell e0 3
  have y4 := blkCell e0 4
  have y5 := blkCell e0 5
  simp at y0 y1 y2 y3 y4 y5
  clear e0 hb hbel HB
  cases h1 : l.any (isLot 4 lot) with
  | false =>
    have HV := hid (show thereErr lot l = 7 by unfold thereErr; rw [h1]; rfl)
    clear h1
    go_wp2
    go_ret
    exact ⟨ret_int HV.out.symm, HB2.out⟩
  | true =>
    have H1 := hid h1
    clear h1
    go_wp2_with fail
    refine (lot_any ho fi A n c A1 c1 l 8 lot _ (Kd.C_below hr HB2.out) hl).mono ?_
    rintro e w3 ⟨rfl, hb⟩
    have HB3 := hid (HB2.out.trans (hb.mono HB2.out.size))
    clear hb
    cases h2 : l.any (isLot 8 lot) with
    | false =>
      have HV := hid (show thereErr lot l = 0 by unfold thereErr; rw [H1.out, h2]; rfl)
      clear h2
      go_wp2
      go_ret
      exact ⟨ret_int HV.out.symm, HB3.out⟩
    | true =>
      have HV := hid (show thereErr lot l = 10 by unfold thereErr; rw [H1.out, h2]; rfl)
      clear h2
      go_wp2
      go_ret
      exact ⟨ret_int HV.out.symm, HB3.out⟩
theorem weighs1 (x : S36) (w : World) : Calls Try.prog 101 #[.agg #[.int .i64 x.f0, .int .u8 x.f1, .int .i64 x.f2, .int .i64 x.f3, .int .i64 x.f4.f0, .int .i64 x.f4.f1, .int .i64 x.f5.f0, .int .i64 x.f5.f1, .int .i64 x.f6.f0, .int .i64 x.f6.f1, .int .i64 x.f7]] w (RetBool true w) := by
  have HB := Below.refl w.heap.size w
  go_enter Try.func101, Try.ntmps101
  go_wp2
  go_ret
  exact ⟨rfl, HB.alloc (Nat.le_refl _) _⟩
theorem weighs2 (x : S36) (w : World) : Calls Try.prog 106 #[.agg #[.int .i64 x.f0, .int .u8 x.f1, .int .i64 x.f2, .int .i64 x.f3, .int .i64 x.f4.f0, .int .i64 x.f4.f1, .int .i64 x.f5.f0, .int .i64 x.f5.f1, .int .i64 x.f6.f0, .int .i64 x.f6.f1, .int .i64 x.f7]] w (RetBool true w) := by
  have HB := Below.refl w.heap.size w
  go_enter Try.func106, Try.ntmps106
  go_wp2
  go_ret
  exact ⟨rfl, HB.alloc (Nat.le_refl _) _⟩
theorem weighs3 (x : S36) (w : World) : Calls Try.prog 109 #[.agg #[.int .i64 x.f0, .int .u8 x.f1, .int .i64 x.f2, .int .i64 x.f3, .int .i64 x.f4.f0, .int .i64 x.f4.f1, .int .i64 x.f5.f0, .int .i64 x.f5.f1, .int .i64 x.f6.f0, .int .i64 x.f6.f1, .int .i64 x.f7]] w (RetBool true w) := by
  have HB := Below.refl w.heap.size w
  go_enter Try.func109, Try.ntmps109
  go_wp2
  go_ret
  exact ⟨rfl, HB.alloc (Nat.le_refl _) _⟩
theorem weighs4 (x : S36) (w : World) : Calls Try.prog 112 #[.agg #[.int .i64 x.f0, .int .u8 x.f1, .int .i64 x.f2, .int .i64 x.f3, .int .i64 x.f4.f0, .int .i64 x.f4.f1, .int .i64 x.f5.f0, .int .i64 x.f5.f1, .int .i64 x.f6.f0, .int .i64 x.f6.f1, .int .i64 x.f7]] w (RetBool true w) := by
  have HB := Below.refl w.heap.size w
  go_enter Try.func112, Try.ntmps112
  go_wp2
  go_ret
  exact ⟨rfl, HB.alloc (Nat.le_refl _) _⟩
theorem weighs5 (x : S36) (w : World) : Calls Try.prog 115 #[.agg #[.int .i64 x.f0, .int .u8 x.f1, .int .i64 x.f2, .int .i64 x.f3, .int .i64 x.f4.f0, .int .i64 x.f4.f1, .int .i64 x.f5.f0, .int .i64 x.f5.f1, .int .i64 x.f6.f0, .int .i64 x.f6.f1, .int .i64 x.f7]] w (RetBool true w) := by
  have HB := Below.refl w.heap.size w
  go_enter Try.func115, Try.ntmps115
  go_wp2
  go_ret
  exact ⟨rfl, HB.alloc (Nat.le_refl _) _⟩
theorem weighs6 (x : S36) (w : World) : Calls Try.prog 118 #[.agg #[.int .i64 x.f0, .int .u8 x.f1, .int .i64 x.f2, .int .i64 x.f3, .int .i64 x.f4.f0, .int .i64 x.f4.f1, .int .i64 x.f5.f0, .int .i64 x.f5.f1, .int .i64 x.f6.f0, .int .i64 x.f6.f1, .int .i64 x.f7]] w (RetBool false w) := by
  have HB := Below.refl w.heap.size w
  go_enter Try.func118, Try.ntmps118
  go_wp2
  go_ret
  exact ⟨rfl, HB.alloc (Nat.le_refl _) _⟩
theorem weighs7 (x : S36) (w : World) : Calls Try.prog 121 #[.agg #[.int .i64 x.f0, .int .u8 x.f1, .int .i64 x.f2, .int .i64 x.f3, .int .i64 x.f4.f0, .int .i64 x.f4.f1, .int .i64 x.f5.f0, .int .i64 x.f5.f1, .int .i64 x.f6.f0, .int .i64 x.f6.f1, .int .i64 x.f7]] w (RetBool false w) := by
  have HB := Below.refl w.heap.size w
  go_enter Try.func121, Try.ntmps121
  go_wp2
  go_ret
  exact ⟨rfl, HB.alloc (Nat.le_refl _) _⟩
theorem weighs8 (x : S36) (w : World) : Calls Try.prog 124 #[.agg #[.int .i64 x.f0, .int .u8 x.f1, .int .i64 x.f2, .int .i64 x.f3, .int .i64 x.f4.f0, .int .i64 x.f4.f1, .int .i64 x.f5.f0, .int .i64 x.f5.f1, .int .i64 x.f6.f0, .int .i64 x.f6.f1, .int .i64 x.f7]] w (RetBool false w) := by
  have HB := Below.refl w.heap.size w
  go_enter Try.func124, Try.ntmps124
  go_wp2
  go_ret
  exact ⟨rfl, HB.alloc (Nat.le_refl _) _⟩
def inErr (x : S36) (l : List S36) : Int := if x.f5.f0 < 0 ∨ x.f5.f1 < x.f5.f0 ∨ x.f6.f0 < 0 ∨ x.f6.f1 < x.f6.f0 then 1 else if 1000 < x.f5.f1 ∨ 1000 < x.f6.f1 ∨ 1000 < x.f5.f1 + x.f6.f1 then 12 else fullErr l
set_option maxRecDepth 100000 in
set_option maxHeartbeats 8000000 in
theorem check1 (x : S36) (ho fi : S23) (A : Option Addr) (n c : Nat) (A1 : Option Addr) (c1 : Nat) (l : List S36) (w : World) (hr : Kd.C k36 w A1 l.length l) (hl : l.length ≤ 1000000) (hc : l.length ≤ c1) :
    Calls Try.prog 100 #[.agg #[.int .i64 x.f0, .int .u8 x.f1, .int .i64 x.f2, .int .i64 x.f3, .int .i64 x.f4.f0, .int .i64 x.f4.f1, .int .i64 x.f5.f0, .int .i64 x.f5.f1, .int .i64 x.f6.f0, .int .i64 x.f6.f1, .int .i64 x.f7], .agg #[.int .i64 ho.f0, .int .i64 ho.f1, .int .i64 fi.f0, .int .i64 fi.f1, .slice A n c, .slice A1 l.length c1]] w (RetInt (inErr x l) w) := by
  have hu := Try.underlying36
  have hu1 := Try.underlying145
  have hu2 := Try.underlying67
  have hu3 := Try.underlying23
  have HB := Below.refl w.heap.size w
  have hbel := hid ((HB.alloc (Nat.le_refl _) (.cells #[.int .i64 x.f0, .int .u8 x.f1, .int .i64 x.f2, .int .i64 x.f3, .int .i64 x.f4.f0, .int .i64 x.f4.f1, .int .i64 x.f5.f0, .int .i64 x.f5.f1, .int .i64 x.f6.f0, .int .i64 x.f6.f1, .int .i64 x.f7] 145)).alloc (by simp) (.cells #[.int .i64 ho.f0, .int .i64 ho.f1, .int .i64 fi.f0, .int .i64 fi.f1, .slice A n c, .slice A1 l.length c1] 67))
  have hw : 0 ≤ x.f5.f1 → x.f5.f1 ≤ 1000 → 0 ≤ x.f6.f1 → x.f6.f1 ≤ 1000 → wrap64 (x.f5.f1 + x.f6.f1) = x.f5.f1 + x.f6.f1 := fun _ _ _ _ => wrap64_id (by omega) (by omega)
  by_cases h0 : x.f5.f0 < 0
  · have HV := hid (show inErr x l = 1 by unfold inErr; rw [if_pos (by omega)])
    have d0 : decide (x.f5.f0 < 0) = true := decide_eq_true h0
    clear hw h0
    go_enter Try.func100, Try.ntmps100
    go_wp2
    go_ret
    exact ⟨ret_int HV.out.symm, hbel.out⟩
  by_cases h1 : x.f5.f1 < x.f5.f0
  · have HV := hid (show inErr x l = 1 by unfold inErr; rw [if_pos (by omega)])
    have d1 : decide (x.f5.f1 < x.f5.f0) = true := decide_eq_true h1
    have d0 : decide (x.f5.f0 < 0) = false := decide_eq_false h0
    clear hw h0 h1
    go_enter Try.func100, Try.ntmps100
    go_wp2
    go_ret
    exact ⟨ret_int HV.out.symm, hbel.out⟩
  by_cases h2 : x.f6.f0 < 0
  · have HV := hid (show inErr x l = 1 by unfold inErr; rw [if_pos (by omega)])
    have d2 : decide (x.f6.f0 < 0) = true := decide_eq_true h2
    have d0 : decide (x.f5.f0 < 0) = false := decide_eq_false h0
    have d1 : decide (x.f5.f1 < x.f5.f0) = false := decide_eq_false h1
    clear hw h0 h1 h2
    go_enter Try.func100, Try.ntmps100
    go_wp2
    go_ret
    exact ⟨ret_int HV.out.symm, hbel.out⟩
  by_cases h3 : x.f6.f1 < x.f6.f0
  · have HV := hid (show inErr x l = 1 by unfold inErr; rw [if_pos (by omega)])
    have d3 : decide (x.f6.f1 < x.f6.f0) = true := decide_eq_true h3
    have d0 : decide (x.f5.f0 < 0) = false := decide_eq_false h0
    have d1 : decide (x.f5.f1 < x.f5.f0) = false := decide_eq_false h1
    have d2 : decide (x.f6.f0 < 0) = false := decide_eq_false h2
    clear hw h0 h1 h2 h3
    go_enter Try.func100, Try.ntmps100
    go_wp2
    go_ret
    exact ⟨ret_int HV.out.symm, hbel.out⟩
  by_cases g0 : 1000 < x.f5.f1
  · have HV := hid (show inErr x l = 12 by unfold inErr; rw [if_neg (by omega), if_pos (by omega)])
    have d0 : decide (x.f5.f0 < 0) = false := decide_eq_false h0
    have d1 : decide (x.f5.f1 < x.f5.f0) = false := decide_eq_false h1
    have d2 : decide (x.f6.f0 < 0) = false := decide_eq_false h2
    have d3 : decide (x.f6.f1 < x.f6.f0) = false := decide_eq_false h3
    have e0 : decide (1000 < x.f5.f1) = true := decide_eq_true g0
    clear hw h0 h1 h2 h3 g0
    go_enter Try.func100, Try.ntmps100
    go_wp2
    go_ret
    exact ⟨ret_int HV.out.symm, hbel.out⟩
  by_cases g1 : 1000 < x.f6.f1
  · have HV := hid (show inErr x l = 12 by unfold inErr; rw [if_neg (by omega), if_pos (by omega)])
    have d0 : decide (x.f5.f0 < 0) = false := decide_eq_false h0
    have d1 : decide (x.f5.f1 < x.f5.f0) = false := decide_eq_false h1
    have d2 : decide (x.f6.f0 < 0) = false := decide_eq_false h2
    have d3 : decide (x.f6.f1 < x.f6.f0) = false := decide_eq_false h3
    have e1 : decide (1000 < x.f6.f1) = true := decide_eq_true g1
    have e0 : decide (1000 < x.f5.f1) = false := decide_eq_false g0
    clear hw h0 h1 h2 h3 g0 g1
    go_enter Try.func100, Try.ntmps100
    go_wp2
    go_ret
    exact ⟨ret_int HV.out.symm, hbel.out⟩
  by_cases g2 : 1000 < x.f5.f1 + x.f6.f1
  · have HV := hid (show inErr x l = 12 by unfold inErr; rw [if_neg (by omega), if_pos (by omega)])
    have d0 : decide (x.f5.f0 < 0) = false := decide_eq_false h0
    have d1 : decide (x.f5.f1 < x.f5.f0) = false := decide_eq_false h1
    have d2 : decide (x.f6.f0 < 0) = false := decide_eq_false h2
    have d3 : decide (x.f6.f1 < x.f6.f0) = false := decide_eq_false h3
    have ew := hw (by omega) (by omega) (by omega) (by omega)
    have e2 : decide (1000 < x.f5.f1 + x.f6.f1) = true := decide_eq_true g2
    have e0 : decide (1000 < x.f5.f1) = false := decide_eq_false g0
    have e1 : decide (1000 < x.f6.f1) = false := decide_eq_false g1
    clear hw h0 h1 h2 h3 g0 g1 g2
    go_enter Try.func100, Try.ntmps100
    go_wp2
    go_ret
    exact ⟨ret_int HV.out.symm, hbel.out⟩
  have HV := hid (show inErr x l = fullErr l by unfold inErr; rw [if_neg (by omega), if_neg (by omega)])
  have d0 : decide (x.f5.f0 < 0) = false := decide_eq_false h0
  have d1 : decide (x.f5.f1 < x.f5.f0) = false := decide_eq_false h1
  have d2 : decide (x.f6.f0 < 0) = false := decide_eq_false h2
  have d3 : decide (x.f6.f1 < x.f6.f0) = false := decide_eq_false h3
  have e0 : decide (1000 < x.f5.f1) = false := decide_eq_false g0
  have e1 : decide (1000 < x.f6.f1) = false := decide_eq_false g1
  have e2 : decide (1000 < x.f5.f1 + x.f6.f1) = false := decide_eq_false g2
  have ew := hw (by omega) (by omega) (by omega) (by omega)
  clear hw h0 h1 h2 h3 g0 g1 g2
  go_enter Try.func100, Try.ntmps100
  go_wp2_with fail
  generalize ((w.alloc (.cells #[.int .i64 x.f0, .int .u8 x.f1, .int .i64 x.f2, .int .i64 x.f3, .int .i64 x.f4.f0, .int .i64 x.f4.f1, .int .i64 x.f5.f0, .int .i64 x.f5.f1, .int .i64 x.f6.f0, .int .i64 x.f6.f1, .int .i64 x.f7] 145)).alloc (.cells #[.int .i64 ho.f0, .int .i64 ho.f1, .int .i64 fi.f0, .int .i64 fi.f1, .slice A n c, .slice A1 l.length c1] 67)) = W2 at *
  refine (full_any ho fi A n c A1 c1 l _ (Kd.C_below hr hbel.out) hl).mono ?_
  rintro e w4 ⟨rfl, hb⟩
  have HB4 := hid (hbel.out.trans (hb.mono hbel.out.size))
  clear hb d0 d1 d2 d3 e0 e1 e2 ew
  go_wp2
  go_ret
  exact ⟨ret_int HV.out.symm, HB4.out⟩
set_option maxRecDepth 100000 in
set_option maxHeartbeats 8000000 in
theorem check3 (x : S36) (ho fi : S23) (A : Option Addr) (n c : Nat) (A1 : Option Addr) (c1 : Nat) (l : List S36) (w : World) (hr : Kd.C k36 w A1 l.length l) (hl : l.length ≤ 1000000) (hc : l.length ≤ c1) :
    Calls Try.prog 108 #[.agg #[.int .i64 x.f0, .int .u8 x.f1, .int .i64 x.f2, .int .i64 x.f3, .int .i64 x.f4.f0, .int .i64 x.f4.f1, .int .i64 x.f5.f0, .int .i64 x.f5.f1, .int .i64 x.f6.f0, .int .i64 x.f6.f1, .int .i64 x.f7], .agg #[.int .i64 ho.f0, .int .i64 ho.f1, .int .i64 fi.f0, .int .i64 fi.f1, .slice A n c, .slice A1 l.length c1]] w (RetInt (0) w) := by
  have hu := Try.underlying36
  have hu1 := Try.underlying147
  have hu2 := Try.underlying67
  have hu3 := Try.underlying23
  have HB := Below.refl w.heap.size w
  have hbel := hid ((HB.alloc (Nat.le_refl _) (.cells #[.int .i64 x.f0, .int .u8 x.f1, .int .i64 x.f2, .int .i64 x.f3, .int .i64 x.f4.f0, .int .i64 x.f4.f1, .int .i64 x.f5.f0, .int .i64 x.f5.f1, .int .i64 x.f6.f0, .int .i64 x.f6.f1, .int .i64 x.f7] 147)).alloc (by simp) (.cells #[.int .i64 ho.f0, .int .i64 ho.f1, .int .i64 fi.f0, .int .i64 fi.f1, .slice A n c, .slice A1 l.length c1] 67))
  go_enter Try.func108, Try.ntmps108
  go_wp2
  go_ret
  exact ⟨rfl, hbel.out⟩
set_option maxRecDepth 100000 in
set_option maxHeartbeats 8000000 in
theorem check6 (x : S36) (ho fi : S23) (A : Option Addr) (n c : Nat) (A1 : Option Addr) (c1 : Nat) (l : List S36) (w : World) (hr : Kd.C k36 w A1 l.length l) (hl : l.length ≤ 1000000) (hc : l.length ≤ c1) :
    Calls Try.prog 117 #[.agg #[.int .i64 x.f0, .int .u8 x.f1, .int .i64 x.f2, .int .i64 x.f3, .int .i64 x.f4.f0, .int .i64 x.f4.f1, .int .i64 x.f5.f0, .int .i64 x.f5.f1, .int .i64 x.f6.f0, .int .i64 x.f6.f1, .int .i64 x.f7], .agg #[.int .i64 ho.f0, .int .i64 ho.f1, .int .i64 fi.f0, .int .i64 fi.f1, .slice A n c, .slice A1 l.length c1]] w (RetInt (0) w) := by
  have hu := Try.underlying36
  have hu1 := Try.underlying150
  have hu2 := Try.underlying67
  have hu3 := Try.underlying23
  have HB := Below.refl w.heap.size w
  have hbel := hid ((HB.alloc (Nat.le_refl _) (.cells #[.int .i64 x.f0, .int .u8 x.f1, .int .i64 x.f2, .int .i64 x.f3, .int .i64 x.f4.f0, .int .i64 x.f4.f1, .int .i64 x.f5.f0, .int .i64 x.f5.f1, .int .i64 x.f6.f0, .int .i64 x.f6.f1, .int .i64 x.f7] 150)).alloc (by simp) (.cells #[.int .i64 ho.f0, .int .i64 ho.f1, .int .i64 fi.f0, .int .i64 fi.f1, .slice A n c, .slice A1 l.length c1] 67))
  go_enter Try.func117, Try.ntmps117
  go_wp2
  go_ret
  exact ⟨rfl, hbel.out⟩
set_option maxRecDepth 100000 in
set_option maxHeartbeats 8000000 in
theorem check5 (x : S36) (ho fi : S23) (A : Option Addr) (n c : Nat) (A1 : Option Addr) (c1 : Nat) (l : List S36) (w : World) (hr : Kd.C k36 w A1 l.length l) (hl : l.length ≤ 1000000) (hc : l.length ≤ c1) :
    Calls Try.prog 114 #[.agg #[.int .i64 x.f0, .int .u8 x.f1, .int .i64 x.f2, .int .i64 x.f3, .int .i64 x.f4.f0, .int .i64 x.f4.f1, .int .i64 x.f5.f0, .int .i64 x.f5.f1, .int .i64 x.f6.f0, .int .i64 x.f6.f1, .int .i64 x.f7], .agg #[.int .i64 ho.f0, .int .i64 ho.f1, .int .i64 fi.f0, .int .i64 fi.f1, .slice A n c, .slice A1 l.length c1]] w (RetInt (fullErr l) w) := by
  have hu := Try.underlying36
  have hu1 := Try.underlying149
  have hu2 := Try.underlying67
  have hu3 := Try.underlying23
  have HB := Below.refl w.heap.size w
  have hbel := hid ((HB.alloc (Nat.le_refl _) (.cells #[.int .i64 x.f0, .int .u8 x.f1, .int .i64 x.f2, .int .i64 x.f3, .int .i64 x.f4.f0, .int .i64 x.f4.f1, .int .i64 x.f5.f0, .int .i64 x.f5.f1, .int .i64 x.f6.f0, .int .i64 x.f6.f1, .int .i64 x.f7] 149)).alloc (by simp) (.cells #[.int .i64 ho.f0, .int .i64 ho.f1, .int .i64 fi.f0, .int .i64 fi.f1, .slice A n c, .slice A1 l.length c1] 67))
  go_enter Try.func114, Try.ntmps114
  go_wp2_with fail
  generalize ((w.alloc (.cells #[.int .i64 x.f0, .int .u8 x.f1, .int .i64 x.f2, .int .i64 x.f3, .int .i64 x.f4.f0, .int .i64 x.f4.f1, .int .i64 x.f5.f0, .int .i64 x.f5.f1, .int .i64 x.f6.f0, .int .i64 x.f6.f1, .int .i64 x.f7] 149)).alloc (.cells #[.int .i64 ho.f0, .int .i64 ho.f1, .int .i64 fi.f0, .int .i64 fi.f1, .slice A n c, .slice A1 l.length c1] 67)) = W2 at *
  refine (full_any ho fi A n c A1 c1 l _ (Kd.C_below hr hbel.out) hl).mono ?_
  rintro e w4 ⟨rfl, hb⟩
  have HB4 := hid (hbel.out.trans (hb.mono hbel.out.size))
  clear hb
  go_wp2
  go_ret
  exact ⟨rfl, HB4.out⟩
set_option maxRecDepth 100000 in
set_option maxHeartbeats 8000000 in
theorem check8 (x : S36) (ho fi : S23) (A : Option Addr) (n c : Nat) (A1 : Option Addr) (c1 : Nat) (l : List S36) (w : World) (hr : Kd.C k36 w A1 l.length l) (hl : l.length ≤ 1000000) (hc : l.length ≤ c1) :
    Calls Try.prog 123 #[.agg #[.int .i64 x.f0, .int .u8 x.f1, .int .i64 x.f2, .int .i64 x.f3, .int .i64 x.f4.f0, .int .i64 x.f4.f1, .int .i64 x.f5.f0, .int .i64 x.f5.f1, .int .i64 x.f6.f0, .int .i64 x.f6.f1, .int .i64 x.f7], .agg #[.int .i64 ho.f0, .int .i64 ho.f1, .int .i64 fi.f0, .int .i64 fi.f1, .slice A n c, .slice A1 l.length c1]] w (RetInt (thereErr x.f3 l) w) := by
  have hu := Try.underlying36
  have hu1 := Try.underlying152
  have hu2 := Try.underlying67
  have hu3 := Try.underlying23
  have HB := Below.refl w.heap.size w
  have hbel := hid ((HB.alloc (Nat.le_refl _) (.cells #[.int .i64 x.f0, .int .u8 x.f1, .int .i64 x.f2, .int .i64 x.f3, .int .i64 x.f4.f0, .int .i64 x.f4.f1, .int .i64 x.f5.f0, .int .i64 x.f5.f1, .int .i64 x.f6.f0, .int .i64 x.f6.f1, .int .i64 x.f7] 152)).alloc (by simp) (.cells #[.int .i64 ho.f0, .int .i64 ho.f1, .int .i64 fi.f0, .int .i64 fi.f1, .slice A n c, .slice A1 l.length c1] 67))
  go_enter Try.func123, Try.ntmps123
  go_wp2_with fail
  generalize ((w.alloc (.cells #[.int .i64 x.f0, .int .u8 x.f1, .int .i64 x.f2, .int .i64 x.f3, .int .i64 x.f4.f0, .int .i64 x.f4.f1, .int .i64 x.f5.f0, .int .i64 x.f5.f1, .int .i64 x.f6.f0, .int .i64 x.f6.f1, .int .i64 x.f7] 152)).alloc (.cells #[.int .i64 ho.f0, .int .i64 ho.f1, .int .i64 fi.f0, .int .i64 fi.f1, .slice A n c, .slice A1 l.length c1] 67)) = W2 at *
  refine (there_any ho fi A n c A1 c1 l x.f3 _ (Kd.C_below hr hbel.out) hl).mono ?_
  rintro e w4 ⟨rfl, hb⟩
  have HB4 := hid (hbel.out.trans (hb.mono hbel.out.size))
  clear hb
  go_wp2
  go_ret
  exact ⟨rfl, HB4.out⟩
def packErr (x : S36) (l : List S36) : Int := if betw x.f3 0 1000000 = true then (if l.any (isLot 4 x.f3) = true then 6 else 0) else 1
set_option maxRecDepth 100000 in
set_option maxHeartbeats 8000000 in
theorem check4 (x : S36) (ho fi : S23) (A : Option Addr) (n c : Nat) (A1 : Option Addr) (c1 : Nat) (l : List S36) (w : World) (hr : Kd.C k36 w A1 l.length l) (hl : l.length ≤ 1000000) (hc : l.length ≤ c1) :
    Calls Try.prog 111 #[.agg #[.int .i64 x.f0, .int .u8 x.f1, .int .i64 x.f2, .int .i64 x.f3, .int .i64 x.f4.f0, .int .i64 x.f4.f1, .int .i64 x.f5.f0, .int .i64 x.f5.f1, .int .i64 x.f6.f0, .int .i64 x.f6.f1, .int .i64 x.f7], .agg #[.int .i64 ho.f0, .int .i64 ho.f1, .int .i64 fi.f0, .int .i64 fi.f1, .slice A n c, .slice A1 l.length c1]] w (RetInt (packErr x l) w) := by
  have hu := Try.underlying36
  have hu1 := Try.underlying148
  have hu2 := Try.underlying67
  have hu3 := Try.underlying23
  have HB := Below.refl w.heap.size w
  have hbel := hid ((HB.alloc (Nat.le_refl _) (.cells #[.int .i64 x.f0, .int .u8 x.f1, .int .i64 x.f2, .int .i64 x.f3, .int .i64 x.f4.f0, .int .i64 x.f4.f1, .int .i64 x.f5.f0, .int .i64 x.f5.f1, .int .i64 x.f6.f0, .int .i64 x.f6.f1, .int .i64 x.f7] 148)).alloc (by simp) (.cells #[.int .i64 ho.f0, .int .i64 ho.f1, .int .i64 fi.f0, .int .i64 fi.f1, .slice A n c, .slice A1 l.length c1] 67))
  cases h0 : betw x.f3 0 1000000 with
  | false =>
    have HV := hid (show packErr x l = 1 by unfold packErr; rw [h0]; rfl)
    go_enter Try.func111, Try.ntmps111
    go_wp2_with (first | (go_at_call 38; refine (within_any _ _ _ _).mono ?_; rintro e w' ⟨rfl, rfl⟩; rw [h0]))
    go_ret
    exact ⟨ret_int HV.out.symm, hbel.out⟩
  | true =>
    go_enter Try.func111, Try.ntmps111
    go_wp2_with (first | (go_at_call 38; refine (within_any _ _ _ _).mono ?_; rintro e w' ⟨rfl, rfl⟩; rw [h0]))
    generalize ((w.alloc (.cells #[.int .i64 x.f0, .int .u8 x.f1, .int .i64 x.f2, .int .i64 x.f3, .int .i64 x.f4.f0, .int .i64 x.f4.f1, .int .i64 x.f5.f0, .int .i64 x.f5.f1, .int .i64 x.f6.f0, .int .i64 x.f6.f1, .int .i64 x.f7] 148)).alloc (.cells #[.int .i64 ho.f0, .int .i64 ho.f1, .int .i64 fi.f0, .int .i64 fi.f1, .slice A n c, .slice A1 l.length c1] 67)) = W2 at *
    refine (lot_any ho fi A n c A1 c1 l 4 x.f3 _ (Kd.C_below hr hbel.out) hl).mono ?_
    rintro e w4 ⟨rfl, hb⟩
    have HB4 := hid (hbel.out.trans (hb.mono hbel.out.size))
    have H0 := hid h0
    clear hb h0
    cases h1 : l.any (isLot 4 x.f3) with
    | false =>
      have HV := hid (show packErr x l = 0 by unfold packErr; rw [H0.out, h1]; rfl)
      clear h1
      go_wp2
      go_ret
      exact ⟨ret_int HV.out.symm, HB4.out⟩
    | true =>
      have HV := hid (show packErr x l = 6 by unfold packErr; rw [H0.out, h1]; rfl)
      clear h1
      go_wp2
      go_ret
      exact ⟨ret_int HV.out.symm, HB4.out⟩
def claimErr (x : S36) (l : List S36) : Int := if thereErr x.f3 l = 0 then (if betw x.f7 1 1000 = true then (if l.any (isLot 7 x.f3) = true then 6 else if closedB x.f3 l = true then 0 else 8) else 1) else thereErr x.f3 l
set_option maxRecDepth 100000 in
set_option maxHeartbeats 8000000 in
theorem check7 (x : S36) (ho fi : S23) (A : Option Addr) (n c : Nat) (A1 : Option Addr) (c1 : Nat) (l : List S36) (w : World) (hr : Kd.C k36 w A1 l.length l) (hl : l.length ≤ 1000000) (hc : l.length ≤ c1) :
    Calls Try.prog 120 #[.agg #[.int .i64 x.f0, .int .u8 x.f1, .int .i64 x.f2, .int .i64 x.f3, .int .i64 x.f4.f0, .int .i64 x.f4.f1, .int .i64 x.f5.f0, .int .i64 x.f5.f1, .int .i64 x.f6.f0, .int .i64 x.f6.f1, .int .i64 x.f7], .agg #[.int .i64 ho.f0, .int .i64 ho.f1, .int .i64 fi.f0, .int .i64 fi.f1, .slice A n c, .slice A1 l.length c1]] w (RetInt (claimErr x l) w) := by
  have hu := Try.underlying36
  have hu1 := Try.underlying151
  have hu2 := Try.underlying67
  have hu3 := Try.underlying23
  have HB := Below.refl w.heap.size w
  have hbel := hid ((HB.alloc (Nat.le_refl _) (.cells #[.int .i64 x.f0, .int .u8 x.f1, .int .i64 x.f2, .int .i64 x.f3, .int .i64 x.f4.f0, .int .i64 x.f4.f1, .int .i64 x.f5.f0, .int .i64 x.f5.f1, .int .i64 x.f6.f0, .int .i64 x.f6.f1, .int .i64 x.f7] 151)).alloc (by simp) (.cells #[.int .i64 ho.f0, .int .i64 ho.f1, .int .i64 fi.f0, .int .i64 fi.f1, .slice A n c, .slice A1 l.length c1] 67))
  have e0 := World.alloc_heap_new w (.cells #[.int .i64 x.f0, .int .u8 x.f1, .int .i64 x.f2, .int .i64 x.f3, .int .i64 x.f4.f0, .int .i64 x.f4.f1, .int .i64 x.f5.f0, .int .i64 x.f5.f1, .int .i64 x.f6.f0, .int .i64 x.f6.f1, .int .i64 x.f7] 151)
  have e0 := alloc_old (o' := .cells #[.int .i64 ho.f0, .int .i64 ho.f1, .int .i64 fi.f0, .int .i64 fi.f1, .slice A n c, .slice A1 l.length c1] 67) e0
  have e1 := World.alloc_heap_new (w.alloc (.cells #[.int .i64 x.f0, .int .u8 x.f1, .int .i64 x.f2, .int .i64 x.f3, .int .i64 x.f4.f0, .int .i64 x.f4.f1, .int .i64 x.f5.f0, .int .i64 x.f5.f1, .int .i64 x.f6.f0, .int .i64 x.f6.f1, .int .i64 x.f7] 151)) (.cells #[.int .i64 ho.f0, .int .i64 ho.f1, .int .i64 fi.f0, .int .i64 fi.f1, .slice A n c, .slice A1 l.length c1] 67)
  rw [World.size_alloc] at e1
  go_enter Try.func120, Try.ntmps120
  go_wp2_with fail
  generalize ((w.alloc (.cells #[.int .i64 x.f0, .int .u8 x.f1, .int .i64 x.f2, .int .i64 x.f3, .int .i64 x.f4.f0, .int .i64 x.f4.f1, .int .i64 x.f5.f0, .int .i64 x.f5.f1, .int .i64 x.f6.f0, .int .i64 x.f6.f1, .int .i64 x.f7] 151)).alloc (.cells #[.int .i64 ho.f0, .int .i64 ho.f1, .int .i64 fi.f0, .int .i64 fi.f1, .slice A n c, .slice A1 l.length c1] 67)) = W2 at *
  refine (there_any ho fi A n c A1 c1 l x.f3 _ (Kd.C_below hr hbel.out) hl).mono ?_
  rintro e w4 ⟨rfl, hb⟩
  have e0 := heap_grow e0 hb
  have e1 := heap_grow e1 hb
  have HB4 := hid (hbel.out.trans (hb.mono hbel.out.size))
  have y0 := blkCell e1 0
  have y1 := blkCell e1 1
  have y2 := blkCell e1 2
  have y3 := blkCell e1 3
  have y4 := blkCell e1 4
  have y5 := blkCell e1 5
  have x3 := blkCell e0 3
  have x7 := blkCell e0 10
  simp at y0 y1 y2 y3 y4 y5 x3 x7
  have HE := hid (And.intro e0 e1)
  clear hb hbel HB e0 e1
  by_cases h0 : ¬ thereErr x.f3 l = 0
  · have HV := hid (show claimErr x l = thereErr x.f3 l by unfold claimErr; rw [if_neg h0])
    have d0 : (thereErr x.f3 l != 0) = true := by simpa using h0
    clear h0
    go_wp2
    go_ret
    exact ⟨ret_int HV.out.symm, HB4.out⟩
  have h0' := Decidable.not_not.1 h0
  have H0 := hid h0'
  have d0 : (thereErr x.f3 l != 0) = false := by simpa using h0'
  clear h0 h0'
  cases h1 : betw x.f7 1 1000 with
  | false =>
    have HV := hid (show claimErr x l = 1 by unfold claimErr; rw [if_pos H0.out, h1]; rfl)
    go_wp2_with (first | (go_at_call 38; refine (within_any _ _ _ _).mono ?_; rintro e w' ⟨rfl, rfl⟩; rw [h1]))
    go_ret
    exact ⟨ret_int HV.out.symm, HB4.out⟩
  | true =>
  have H1 := hid h1
  go_wp2_with (first | (go_at_call 38; refine (within_any _ _ _ _).mono ?_; rintro e w' ⟨rfl, rfl⟩; rw [h1]))
  refine (lot_any ho fi A n c A1 c1 l 7 x.f3 _ (Kd.C_below hr HB4.out) hl).mono ?_
  rintro e w5 ⟨rfl, hb⟩
  have e0 := heap_grow HE.out.1 hb
  have e1 := heap_grow HE.out.2 hb
  have HB5 := hid (HB4.out.trans (hb.mono HB4.out.size))
  clear hb h1 d0 HE HB4 y0 y1 y2 y3 y4 y5 x3 x7
  have y0 := blkCell e1 0
  have y1 := blkCell e1 1
  have y2 := blkCell e1 2
  have y3 := blkCell e1 3
  have y4 := blkCell e1 4
  have y5 := blkCell e1 5
  have x3 := blkCell e0 3
  have x7 := blkCell e0 10
  simp at y0 y1 y2 y3 y4 y5 x3 x7
  have HE := hid (And.intro e0 e1)
  clear e0 e1
  cases h2 : l.any (isLot 7 x.f3) with
  | true =>
    have HV := hid (show claimErr x l = 6 by unfold claimErr; rw [if_pos H0.out, if_pos H1.out, if_pos h2])
    clear h2
    go_wp2
    go_ret
    exact ⟨ret_int HV.out.symm, HB5.out⟩
  | false =>
  have H2 := hid h2
  clear h2
  go_wp2_with fail
  refine (closed_any ho fi A n c A1 c1 l x.f3 _ (Kd.C_below hr HB5.out) hl hc).mono ?_
  rintro e w6 ⟨rfl, hb⟩
  have HB6 := hid (HB5.out.trans (hb.mono HB5.out.size))
  clear hb HE HB5 y0 y1 y2 y3 y4 y5 x3 x7
  cases h3 : closedB x.f3 l with
  | true =>
    have HV := hid (show claimErr x l = 0 by unfold claimErr; rw [if_pos H0.out, if_pos H1.out, H2.out, h3]; rfl)
    clear h3
    go_wp2
    go_ret
    exact ⟨ret_int HV.out.symm, HB6.out⟩
  | false =>
    have HV := hid (show claimErr x l = 8 by unfold claimErr; rw [if_pos H0.out, if_pos H1.out, H2.out, h3]; rfl)
    clear h3
    go_wp2
    go_ret
    exact ⟨ret_int HV.out.symm, HB6.out⟩
theorem within_eq (a l h : Int) (w : World) : Calls Try.prog 38 #[.int .i64 a, .int .i64 l, .int .i64 h] w fun e w' => e = .returned (.bool (betw a l h)) ∧ Below w.heap.size w w' :=
  (within_any a l h w).mono fun e w' ⟨h1, h2⟩ => ⟨h1, h2 ▸ Below.refl _ _⟩
def chargeErr (x : S36) (l : List S36) : Int := if betw x.f2 0 (((cnt isHeap l : Nat) : Int) - 1) = true then 0 else 7
set_option maxRecDepth 100000 in
set_option maxHeartbeats 8000000 in
theorem check2 (x : S36) (ho fi : S23) (A : Option Addr) (n c : Nat) (A1 : Option Addr) (c1 : Nat) (l : List S36) (w : World) (hr : Kd.C k36 w A1 l.length l) (hl : l.length ≤ 1000000) (hc : l.length ≤ c1) :
    Calls Try.prog 105 #[.agg #[.int .i64 x.f0, .int .u8 x.f1, .int .i64 x.f2, .int .i64 x.f3, .int .i64 x.f4.f0, .int .i64 x.f4.f1, .int .i64 x.f5.f0, .int .i64 x.f5.f1, .int .i64 x.f6.f0, .int .i64 x.f6.f1, .int .i64 x.f7], .agg #[.int .i64 ho.f0, .int .i64 ho.f1, .int .i64 fi.f0, .int .i64 fi.f1, .slice A n c, .slice A1 l.length c1]] w (RetInt (chargeErr x l) w) := by
  have hu := Try.underlying36
  have hu1 := Try.underlying146
  have hu2 := Try.underlying67
  have hu3 := Try.underlying23
  have HB := Below.refl w.heap.size w
  have hbel := hid ((HB.alloc (Nat.le_refl _) (.cells #[.int .i64 x.f0, .int .u8 x.f1, .int .i64 x.f2, .int .i64 x.f3, .int .i64 x.f4.f0, .int .i64 x.f4.f1, .int .i64 x.f5.f0, .int .i64 x.f5.f1, .int .i64 x.f6.f0, .int .i64 x.f6.f1, .int .i64 x.f7] 146)).alloc (by simp) (.cells #[.int .i64 ho.f0, .int .i64 ho.f1, .int .i64 fi.f0, .int .i64 fi.f1, .slice A n c, .slice A1 l.length c1] 67))
  have e0 := World.alloc_heap_new w (.cells #[.int .i64 x.f0, .int .u8 x.f1, .int .i64 x.f2, .int .i64 x.f3, .int .i64 x.f4.f0, .int .i64 x.f4.f1, .int .i64 x.f5.f0, .int .i64 x.f5.f1, .int .i64 x.f6.f0, .int .i64 x.f6.f1, .int .i64 x.f7] 146)
  have e0 := alloc_old (o' := .cells #[.int .i64 ho.f0, .int .i64 ho.f1, .int .i64 fi.f0, .int .i64 fi.f1, .slice A n c, .slice A1 l.length c1] 67) e0
  have e1 := World.alloc_heap_new (w.alloc (.cells #[.int .i64 x.f0, .int .u8 x.f1, .int .i64 x.f2, .int .i64 x.f3, .int .i64 x.f4.f0, .int .i64 x.f4.f1, .int .i64 x.f5.f0, .int .i64 x.f5.f1, .int .i64 x.f6.f0, .int .i64 x.f6.f1, .int .i64 x.f7] 146)) (.cells #[.int .i64 ho.f0, .int .i64 ho.f1, .int .i64 fi.f0, .int .i64 fi.f1, .slice A n c, .slice A1 l.length c1] 67)
  rw [World.size_alloc] at e1
  have hcl : cnt isHeap l ≤ l.length := List.countP_le_length
  have hw1 : IntKind.i64.wrap (((cnt isHeap l : Nat) : Int) - 1) = ((cnt isHeap l : Nat) : Int) - 1 := by rw [wrap_i]; exact wrap64_id (by omega) (by omega)
  go_enter Try.func105, Try.ntmps105
  go_wp2_with fail
  generalize ((w.alloc (.cells #[.int .i64 x.f0, .int .u8 x.f1, .int .i64 x.f2, .int .i64 x.f3, .int .i64 x.f4.f0, .int .i64 x.f4.f1, .int .i64 x.f5.f0, .int .i64 x.f5.f1, .int .i64 x.f6.f0, .int .i64 x.f6.f1, .int .i64 x.f7] 146)).alloc (.cells #[.int .i64 ho.f0, .int .i64 ho.f1, .int .i64 fi.f0, .int .i64 fi.f1, .slice A n c, .slice A1 l.length c1] 67)) = W2 at *
  have y0 := blkCell e0 0
  have y1 := blkCell e0 1
  have y2 := blkCell e0 2
  have y3 := blkCell e0 3
  have y4 := blkCell e0 4
  have y5 := blkCell e0 5
  have y6 := blkCell e0 6
  have y7 := blkCell e0 7
  have y8 := blkCell e0 8
  have y9 := blkCell e0 9
  have y10 := blkCell e0 10
  have y11 := blkCell e1 0
  have y12 := blkCell e1 1
  have y13 := blkCell e1 2
  have y14 := blkCell e1 3
  have y15 := blkCell e1 4
  have y16 := blkCell e1 5
  simp at y0 y1 y2 y3 y4 y5 y6 y7 y8 y9 y10 y11 y12 y13 y14 y15 y16
  refine wp_flow [[], [0], [1, 0], [], [3], [4, 3], [2, 1, 0, 5, 4, 3], [6, 2, 1, 0, 5, 4, 3]] 8
    (fun V => V.cell? ⟨w.heap.size, 0, none⟩ = some (.int .i64 x.f0) ∧ V.cell? ⟨w.heap.size, 1, none⟩ = some (.int .u8 x.f1) ∧ V.cell? ⟨w.heap.size, 2, none⟩ = some (.int .i64 x.f2) ∧ V.cell? ⟨w.heap.size, 3, none⟩ = some (.int .i64 x.f3) ∧ V.cell? ⟨w.heap.size, 4, none⟩ = some (.int .i64 x.f4.f0) ∧ V.cell? ⟨w.heap.size, 5, none⟩ = some (.int .i64 x.f4.f1) ∧ V.cell? ⟨w.heap.size, 6, none⟩ = some (.int .i64 x.f5.f0) ∧ V.cell? ⟨w.heap.size, 7, none⟩ = some (.int .i64 x.f5.f1) ∧ V.cell? ⟨w.heap.size, 8, none⟩ = some (.int .i64 x.f6.f0) ∧ V.cell? ⟨w.heap.size, 9, none⟩ = some (.int .i64 x.f6.f1) ∧ V.cell? ⟨w.heap.size, 10, none⟩ = some (.int .i64 x.f7) ∧ V.cell? ⟨(w.heap.size + 1), 0, none⟩ = some (.int .i64 ho.f0) ∧ V.cell? ⟨(w.heap.size + 1), 1, none⟩ = some (.int .i64 ho.f1) ∧ V.cell? ⟨(w.heap.size + 1), 2, none⟩ = some (.int .i64 fi.f0) ∧ V.cell? ⟨(w.heap.size + 1), 3, none⟩ = some (.int .i64 fi.f1) ∧ V.cell? ⟨(w.heap.size + 1), 4, none⟩ = some (.slice A n c) ∧ V.cell? ⟨(w.heap.size + 1), 5, none⟩ = some (.slice A1 l.length c1) ∧ Below W2.heap.size W2 V)
    { tmps := #[.agg #[.int .i64 x.f0, .int .u8 x.f1, .int .i64 x.f2, .int .i64 x.f3, .int .i64 x.f4.f0, .int .i64 x.f4.f1, .int .i64 x.f5.f0, .int .i64 x.f5.f1, .int .i64 x.f6.f0, .int .i64 x.f6.f1, .int .i64 x.f7], .agg #[.int .i64 ho.f0, .int .i64 ho.f1, .int .i64 fi.f0, .int .i64 fi.f1, .slice A n c, .slice A1 l.length c1], .pointer (some ⟨w.heap.size, 0, none⟩), .pointer (some ⟨(w.heap.size + 1), 0, none⟩), .int .i64 0, .pointer (some ⟨w.heap.size, 0, none⟩), .pointer (some ⟨w.heap.size, 2, none⟩), .int .i64 x.f2, .agg #[.int .i64 ho.f0, .int .i64 ho.f1, .int .i64 fi.f0, .int .i64 fi.f1, .slice A n c, .slice A1 l.length c1], .int .i64 (((cnt isHeap l : Nat) : Int)), .int .i64 (((cnt isHeap l : Nat) : Int) - 1), .bool (betw x.f2 0 (((cnt isHeap l : Nat) : Int) - 1)), .bool (!(betw x.f2 0 (((cnt isHeap l : Nat) : Int) - 1)))], defers := [] }
    mixed (by kernel_rfl) rfl (Ahead.of3 5 13 rfl rfl (by kernel_rfl) rfl rfl) ?_ (AllFlow.ops rfl ?_) rfl ?_
  · exact ⟨y0, y1, y2, y3, y4, y5, y6, y7, y8, y9, y10, y11, y12, y13, y14, y15, y16, (Below.refl _ _).drew⟩
  · refine ⟨?_, ?_, ?_, ?_, ?_, ?_, ?_, ?_, trivial⟩
    · exact .val 5 _ rfl rfl fun V ⟨y0, y1, y2, y3, y4, y5, y6, y7, y8, y9, y10, y11, y12, y13, y14, y15, y16, hB_⟩ => by go_simp
    · exact .val 6 _ rfl rfl fun V ⟨y0, y1, y2, y3, y4, y5, y6, y7, y8, y9, y10, y11, y12, y13, y14, y15, y16, hB_⟩ => by go_simp
    · exact .val 7 _ rfl rfl fun V ⟨y0, y1, y2, y3, y4, y5, y6, y7, y8, y9, y10, y11, y12, y13, y14, y15, y16, hB_⟩ => by go_simp
    · exact .val 8 _ rfl rfl fun V ⟨y0, y1, y2, y3, y4, y5, y6, y7, y8, y9, y10, y11, y12, y13, y14, y15, y16, hB_⟩ => by go_simp
    · refine .call 9 (.int .i64 (((cnt isHeap l : Nat) : Int))) 52 #[.agg #[.int .i64 ho.f0, .int .i64 ho.f1, .int .i64 fi.f0, .int .i64 fi.f1, .slice A n c, .slice A1 l.length c1], .func (.func 103) #[] #[]] rfl rfl (fun V ⟨y0, y1, y2, y3, y4, y5, y6, y7, y8, y9, y10, y11, y12, y13, y14, y15, y16, hB_⟩ => by go_simp) fun V ⟨y0, y1, y2, y3, y4, y5, y6, y7, y8, y9, y10, y11, y12, y13, y14, y15, y16, hB_⟩ => ?_
      refine (heaps_any ho fi A n c A1 c1 l _ (Kd.C_below hr (hbel.out.trans (hB_.mono hbel.out.size))) hl).mono ?_
      rintro e w' ⟨rfl, hb⟩
      exact ⟨rfl, cell_grow y0 hb, cell_grow y1 hb, cell_grow y2 hb, cell_grow y3 hb, cell_grow y4 hb, cell_grow y5 hb, cell_grow y6 hb, cell_grow y7 hb, cell_grow y8 hb, cell_grow y9 hb, cell_grow y10 hb, cell_grow y11 hb, cell_grow y12 hb, cell_grow y13 hb, cell_grow y14 hb, cell_grow y15 hb, cell_grow y16 hb, hB_.trans (hb.mono hB_.size)⟩
    · exact .val 10 _ rfl rfl fun V ⟨y0, y1, y2, y3, y4, y5, y6, y7, y8, y9, y10, y11, y12, y13, y14, y15, y16, hB_⟩ => by go_simp <;> exact hw1
    · refine .call 11 (.bool (betw x.f2 0 (((cnt isHeap l : Nat) : Int) - 1))) 38 #[.int .i64 x.f2, .int .i64 0, .int .i64 (((cnt isHeap l : Nat) : Int) - 1)] rfl rfl (fun V ⟨y0, y1, y2, y3, y4, y5, y6, y7, y8, y9, y10, y11, y12, y13, y14, y15, y16, hB_⟩ => by go_simp) fun V ⟨y0, y1, y2, y3, y4, y5, y6, y7, y8, y9, y10, y11, y12, y13, y14, y15, y16, hB_⟩ => ?_
      refine (within_eq _ _ _ _).mono ?_
      rintro e w' ⟨rfl, hb⟩
      exact ⟨rfl, cell_grow y0 hb, cell_grow y1 hb, cell_grow y2 hb, cell_grow y3 hb, cell_grow y4 hb, cell_grow y5 hb, cell_grow y6 hb, cell_grow y7 hb, cell_grow y8 hb, cell_grow y9 hb, cell_grow y10 hb, cell_grow y11 hb, cell_grow y12 hb, cell_grow y13 hb, cell_grow y14 hb, cell_grow y15 hb, cell_grow y16 hb, hB_.trans (hb.mono hB_.size)⟩
    · exact .val 12 _ rfl rfl fun V ⟨y0, y1, y2, y3, y4, y5, y6, y7, y8, y9, y10, y11, y12, y13, y14, y15, y16, hB_⟩ => by go_simp
  · rintro V7 ⟨y0, y1, y2, y3, y4, y5, y6, y7, y8, y9, y10, y11, y12, y13, y14, y15, y16, hB_⟩
    have HB7 := hid (hbel.out.trans (hB_.mono hbel.out.size))
    clear hB_ e0 e1 y0 y1 y2 y3 y4 y5 y6 y7 y8 y9 y10 y11 y12 y13 y14 y15 y16
    cases h0 : betw x.f2 0 (((cnt isHeap l : Nat) : Int) - 1) with
    | true =>
      have HV := hid (show chargeErr x l = 0 by unfold chargeErr; rw [h0]; rfl)
      clear h0
      go_wp2
      go_ret
      exact ⟨ret_int HV.out.symm, HB7.out⟩
    | false =>
      have HV := hid (show chargeErr x l = 7 by unfold chargeErr; rw [h0]; rfl)
      clear h0
      go_wp2
      go_ret
      exact ⟨ret_int HV.out.symm, HB7.out⟩
end Go.Proofs.Ytbmkbokkmmdjdaa
end
