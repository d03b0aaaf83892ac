import Derived.Test.YthoofldinnfpiaaLW
import Derived.Test.YthoofldinnfpiaaOT
namespace Go.Proofs.Ythoofldinnfpiaa
open Go.RowKit Go.Proofs.YthoofldinnfpiaaW.PrintWords Go.Proofs.YthoofldinnfpiaaW.PrintLast Go.Proofs.YthoofldinnfpiaaW.PrintMore
open Q Go.Shelf
attribute [local go_sem] Oper.semAt_some wide_depth wide_fn
set_option linter.unusedVariables false
theorem bursts_at {l : List S82} {fl tg : Int} {th : List S29} {p f s o : Int} (h : askedOf l fl tg th p f s o = 0) (x : Int) (h0 : 0 ≤ x) (h1 : x ≤ 10000) :
    holdsRes l fl tg th x f s o = (decide (x ≤ firstOf (notYes l fl tg th f s o) 0 10000 - 1), decide (firstOf (doesBrk l fl tg th f s o) 0 10000 ≤ x), 0) := by
  unfold holdsRes
  rw [if_pos (asked_press h h0 h1), burst_yes h h0 h1, burst_brk h h0 h1]
theorem size33 : (Try.prog.info? 33).map (·.size) = some 21 := by kernel_rfl
theorem loadVar_ne (t : TypeId) (a : Addr) (h : ¬ t = 33) : loadVar t a = (do if ← isAgg t then pure (.agg (← loadCells a (← sizeOf t))) else load a) := rfl
attribute [-go_sem] loadVar
attribute [local go_sem] loadVar_ne
set_option maxRecDepth 100000 in
set_option maxHeartbeats 4000000 in
theorem strengthBursts_calls (A : Option Addr) (c : Nat) (l : List S82) (fl tg : Int) (A0 : Option Addr) (c0 : Nat) (l0 : List S29) (a1 a2 a3 a4 a5 a6 a7 a8 : Int) (A9 : Option Addr) (c9 : Nat) (l9 : List Int) (a10 a11 a12 a13 a14 a15 a16 a17 a18 : Int) (A19 : Option Addr) (c19 : Nat) (l19 : List Int) (A20 : Option Addr) (c20 : Nat) (l20 : List S118) (W : World)
    (hC : Kd.C k82 W A l.length l) (hl : l.length ≤ c) (hC0 : Kd.C k29 W A0 l0.length l0) (hl0 : l0.length ≤ c0) (hC9 : Kd.C (Kd.int .i64) W A9 l9.length l9) (hl9 : l9.length ≤ c9) (hC19 : Kd.C (Kd.int .i64) W A19 l19.length l19) (hl19 : l19.length ≤ c19) (hC20 : Kd.C k118 W A20 l20.length l20) (hl20 : l20.length ≤ c20)
    (wl : ∀ y ∈ l, W82 y) (w1 : W64 fl) (w2 : W64 tg)
    (wf : (∀ y ∈ l0, W29 y) ∧ (W64 a1 ∧ W64 a2 ∧ W64 a3 ∧ W64 a4) ∧ W64 a5 ∧ W64 a6 ∧ W64 a7 ∧ W64 a8 ∧ (∀ y ∈ l9, W64 y) ∧ W64 a10 ∧ W64 a11 ∧ W64 a12 ∧ W64 a13 ∧ W64 a14 ∧ W64 a15 ∧ W64 a16 ∧ W64 a17 ∧ W64 a18 ∧ (∀ y ∈ l19, W64 y) ∧ ∀ y ∈ l20, W118 y) :
    Calls Try.prog 7 #[.agg #[.slice A l.length c, .int .i64 fl, .int .i64 tg], .agg #[.slice A0 l0.length c0, .int .i64 a1, .int .i64 a2, .int .i64 a3, .int .i64 a4, .int .i64 a5, .int .i64 a6, .int .i64 a7, .int .i64 a8, .slice A9 l9.length c9, .int .i64 a10, .int .i64 a11, .int .i64 a12, .int .i64 a13, .int .i64 a14, .int .i64 a15, .int .i64 a16, .int .i64 a17, .int .i64 a18, .slice A19 l19.length c19, .slice A20 l20.length c20]] W fun e w' => e = .returned (.bool true) ∧ Below W.heap.size W w' := by
  have HB := Below.refl W.heap.size W
  obtain ⟨b, ⟨K, hK⟩, hw⟩ := wide05 l0 a1 a2 a3 a4 a5 a6 a7 a8 l9 a10 a11 a12 a13 a14 a15 a16 a17 a18 l19 l20
  have HW := hid (hK K (Nat.le_refl _))
  have HC := hid (And.intro hC (And.intro hl (And.intro hC0 (And.intro hl0 (And.intro hC9 (And.intro hl9 (And.intro hC19 (And.intro hl19 (And.intro hC20 hl20)))))))))
  have hu24 := Try.underlying24
  have hu33 := Try.underlying33
  have hu27 := Try.underlying27
  have hu29 := Try.underlying29
  clear hK hC hl hC0 hl0 hC9 hl9 hC19 hl19 hC20 hl20 wl w1 w2 wf
  go_enter Try.func7, Try.ntmps7
  go_wp2_with fail
  obtain ⟨hC, hl, hC0, hl0, hC9, hl9, hC19, hl19, hC20, hl20⟩ := HC.out
  have hbel := (HB.alloc (Nat.le_refl _) (.cells #[.slice A l.length c, .int .i64 fl, .int .i64 tg] 24)).alloc (by simp) (.cells #[.slice A0 l0.length c0, .int .i64 a1, .int .i64 a2, .int .i64 a3, .int .i64 a4, .int .i64 a5, .int .i64 a6, .int .i64 a7, .int .i64 a8, .slice A9 l9.length c9, .int .i64 a10, .int .i64 a11, .int .i64 a12, .int .i64 a13, .int .i64 a14, .int .i64 a15, .int .i64 a16, .int .i64 a17, .int .i64 a18, .slice A19 l19.length c19, .slice A20 l20.length c20] 33)
  have e0 := World.alloc_heap_new W (.cells #[.slice A l.length c, .int .i64 fl, .int .i64 tg] 24)
  have e1 := World.alloc_heap_new (W.alloc (.cells #[.slice A l.length c, .int .i64 fl, .int .i64 tg] 24)) (.cells #[.slice A0 l0.length c0, .int .i64 a1, .int .i64 a2, .int .i64 a3, .int .i64 a4, .int .i64 a5, .int .i64 a6, .int .i64 a7, .int .i64 a8, .slice A9 l9.length c9, .int .i64 a10, .int .i64 a11, .int .i64 a12, .int .i64 a13, .int .i64 a14, .int .i64 a15, .int .i64 a16, .int .i64 a17, .int .i64 a18, .slice A19 l19.length c19, .slice A20 l20.length c20] 33)
  have e0 := alloc_old (o' := .cells #[.slice A0 l0.length c0, .int .i64 a1, .int .i64 a2, .int .i64 a3, .int .i64 a4, .int .i64 a5, .int .i64 a6, .int .i64 a7, .int .i64 a8, .slice A9 l9.length c9, .int .i64 a10, .int .i64 a11, .int .i64 a12, .int .i64 a13, .int .i64 a14, .int .i64 a15, .int .i64 a16, .int .i64 a17, .int .i64 a18, .slice A19 l19.length c19, .slice A20 l20.length c20] 33) e0
  rw [World.size_alloc] at e1
  have hI : LawB W A c l fl tg A0 c0 l0 a1 a2 a3 a4 a5 a6 a7 a8 A9 c9 l9 a10 a11 a12 a13 a14 a15 a16 a17 a18 A19 c19 l19 A20 c20 l20 ((W.alloc (.cells #[.slice A l.length c, .int .i64 fl, .int .i64 tg] 24)).alloc (.cells #[.slice A0 l0.length c0, .int .i64 a1, .int .i64 a2, .int .i64 a3, .int .i64 a4, .int .i64 a5, .int .i64 a6, .int .i64 a7, .int .i64 a8, .slice A9 l9.length c9, .int .i64 a10, .int .i64 a11, .int .i64 a12, .int .i64 a13, .int .i64 a14, .int .i64 a15, .int .i64 a16, .int .i64 a17, .int .i64 a18, .slice A19 l19.length c19, .slice A20 l20.length c20] 33)) := ⟨e0, e1, hbel⟩
  generalize ((W.alloc (.cells #[.slice A l.length c, .int .i64 fl, .int .i64 tg] 24)).alloc (.cells #[.slice A0 l0.length c0, .int .i64 a1, .int .i64 a2, .int .i64 a3, .int .i64 a4, .int .i64 a5, .int .i64 a6, .int .i64 a7, .int .i64 a8, .slice A9 l9.length c9, .int .i64 a10, .int .i64 a11, .int .i64 a12, .int .i64 a13, .int .i64 a14, .int .i64 a15, .int .i64 a16, .int .i64 a17, .int .i64 a18, .slice A19 l19.length c19, .slice A20 l20.length c20] 33)) = W2 at *
  refine (great_any A c l fl tg _ (Kd.C_below hC hI.be) hl).mono ?_
  rintro e w1 ⟨rfl, hb⟩
  have HI1 := hid (hI.grow hb)
  clear hI hb e0 e1 hbel hC hl hC0 hl0 hC9 hl9 hC19 hl19 hC20 hl20 HB
  cases hg : decide ((l.length : Int) > 40) with
  | true =>
    go_wp2_with (first | (go_at_call 14; refine (lives_any _).mono ?_; rintro e w2 ⟨rfl, hb⟩))
    refine bodyPost_ret (v := .bool true) (by simp [results, Try.results7, go_sem]) rfl ⟨rfl, HI1.out.be.trans (hb.mono HI1.out.be.size)⟩
  | false =>
  have hq := fun j => blkCell HI1.out.ha j
  have HG := hid hg
  clear hg
  have hld := run_loadVar_row (P := Try.prog) w1 (W.heap.size + 1) 33 33 #[.slice A0 l0.length c0, .int .i64 a1, .int .i64 a2, .int .i64 a3, .int .i64 a4, .int .i64 a5, .int .i64 a6, .int .i64 a7, .int .i64 a8, .slice A9 l9.length c9, .int .i64 a10, .int .i64 a11, .int .i64 a12, .int .i64 a13, .int .i64 a14, .int .i64 a15, .int .i64 a16, .int .i64 a17, .int .i64 a18, .slice A19 l19.length c19, .slice A20 l20.length c20] (0, 0) _ HI1.out.ha Try.underlying33 rfl size33
  clear hq
  go_wp2_with fail
  obtain ⟨hC, hl, hC0, hl0, hC9, hl9, hC19, hl19, hC20, hl20⟩ := HC.out
  have hbe := HI1.out.be
  refine (culletlaw05_Wide.calls K A0 c0 l0 a1 a2 a3 a4 a5 a6 a7 a8 A9 c9 l9 a10 a11 a12 a13 a14 a15 a16 a17 a18 A19 c19 l19 A20 c20 l20 b _ (Kd.C_below hC0 hbe) hl0 (Kd.C_below hC9 hbe) hl9 (Kd.C_below hC19 hbe) hl19 (Kd.C_below hC20 hbe) hl20 HW.out).mono ?_
  rintro e w3 ⟨rfl, hb⟩
  have HI3 := hid (HI1.out.grow hb)
  clear hb hbe hC hl hC0 hl0 hC9 hl9 hC19 hl19 hC20 hl20 hld HI1
  cases b with
  | true =>
    go_wp2_with (first | (go_at_call 14; refine (lives_any _).mono ?_; rintro e w4 ⟨rfl, hb⟩))
    refine bodyPost_ret (v := .bool true) (by simp [results, Try.results7, go_sem]) rfl ⟨rfl, HI3.out.be.trans (hb.mono HI3.out.be.size)⟩
  | false =>
  have p0 := blkCell HI3.out.hb 0
  have p1 := blkCell HI3.out.hb 1
  have p2 := blkCell HI3.out.hb 2
  have q0 := blkCell HI3.out.ha 0
  have q1 := blkCell HI3.out.ha 1
  have q2 := blkCell HI3.out.ha 2
  have q3 := blkCell HI3.out.ha 3
  have q4 := blkCell HI3.out.ha 4
  simp at p0 p1 p2 q0 q1 q2 q3 q4
  have hth := (hw rfl).1
  have hll : l.length ≤ 40 := by have := HG.out; simp at this; omega
  clear hw
  have HL := hid (And.intro hth hll)
  clear hth hll
  go_wp2_with fail
  obtain ⟨hC, hl, hC0, hl0, hC9, hl9, hC19, hl19, hC20, hl20⟩ := HC.out
  refine (Burst_any A c l fl tg A0 c0 l0 a1 a2 a3 a4 _ (Kd.C_below hC HI3.out.be) (Kd.C_below hC0 HI3.out.be) (by have := HL.out.1; omega) (by have := HL.out.2; omega)).mono ?_
  rintro e w4 ⟨rfl, hb⟩
  have HI4 := hid (HI3.out.grow hb)
  clear hb hC hl hC0 hl0 hC9 hl9 hC19 hl19 hC20 hl20 p0 p1 p2 q0 q1 q2 q3 q4 HI3
  by_cases hz : ¬ askedOf l fl tg l0 a1 a2 a3 a4 = 0
  · have hbr : burstRes l fl tg l0 a1 a2 a3 a4 = (0, 0, askedOf l fl tg l0 a1 a2 a3 a4) := by unfold burstRes; rw [if_neg hz]
    rw [hbr]
    simp only
    obtain ⟨ek, hek⟩ : ∃ ek, askedOf l fl tg l0 a1 a2 a3 a4 = ek := ⟨_, rfl⟩
    rw [hek] at hz
    rw [hek]
    clear hbr hek
    have hzb : (ek == 0) = false := by simpa using hz
    go_wp2_with (first | (go_at_call 14; refine (lives_any _).mono ?_; rintro e w5 ⟨rfl, hb⟩))
    refine bodyPost_ret (v := .bool true) (by simp [results, Try.results7, go_sem]) rfl ⟨rfl, (HI4.out.be.alloc HI4.out.be.size _).trans (hb.mono (HI4.out.be.alloc HI4.out.be.size _).size)⟩
  · have hz' := Decidable.not_not.1 hz
    obtain ⟨uL, hL⟩ : ∃ uL, uL = firstOf (notYes l fl tg l0 a2 a3 a4) 0 10000 - 1 := ⟨_, rfl⟩
    obtain ⟨uH, hH⟩ : ∃ uH, uH = firstOf (doesBrk l fl tg l0 a2 a3 a4) 0 10000 := ⟨_, rfl⟩
    have hbr : burstRes l fl tg l0 a1 a2 a3 a4 = (uL, uH, 0) := by unfold burstRes; rw [if_pos hz', hL, hH]
    rw [hbr]
    simp only
    obtain ⟨b1, b2, _⟩ := firstOf_begins (notYes l fl tg l0 a2 a3 a4) (lo := 0) (hi := 10000) (by omega)
    obtain ⟨d1, d2, _⟩ := firstOf_begins (doesBrk l fl tg l0 a2 a3 a4) (lo := 0) (hi := 10000) (by omega)
    have r1 : wrap64 (uL + 1) = uL + 1 := wrap64_id (by omega) (by omega)
    have r2 : wrap64 (uH - 1) = uH - 1 := wrap64_id (by omega) (by omega)
    have HU := hid (show -1 ≤ uL ∧ uH ≤ 10001 by omega)
    have HLH := hid (And.intro hL hH)
    have HZ := hid hz'
    clear hbr b1 b2 d1 d2 hz hz' hL hH
    go_wp2_with fail
    have hbel := (HI4.out.be.alloc HI4.out.be.size (.cells #[.int .i64 uL, .int .i64 uH] 29)).alloc ((HI4.out.be.alloc HI4.out.be.size (.cells #[.int .i64 uL, .int .i64 uH] 29)).size) (.cells #[.int .i64 uL, .int .i64 (uL + 1), .int .i64 (uH - 1), .int .i64 uH] 3)
    simp only [r1, r2]
    clear r1 r2
    go_loopw [49] (fun v49 X => ∃ k : Nat, k ≤ 4 ∧ v49 = .int .i64 k ∧ Hid (LawB W A c l fl tg A0 c0 l0 a1 a2 a3 a4 a5 a6 a7 a8 A9 c9 l9 a10 a11 a12 a13 a14 a15 a16 a17 a18 A19 c19 l19 A20 c20 l20 X ∧ X.heap[w4.heap.size]? = some (.cells #[.int .i64 uL, .int .i64 uH] 29 (0, 0)) ∧ X.heap[w4.heap.size + 1]? = some (.cells #[.int .i64 uL, .int .i64 (uL + 1), .int .i64 (uH - 1), .int .i64 uH] 3 (0, 0)))) (fun v49 _ => 4 - (intOf v49).toNat)
    case atStart =>
      refine ⟨0, by omega, rfl, hid ⟨HI4.out.grow (((Below.refl _ _).alloc (Nat.le_refl _) _).alloc (by simp) _), alloc_old (World.alloc_heap_new _ _), ?_⟩⟩
      have := World.alloc_heap_new (w4.alloc (.cells #[.int .i64 uL, .int .i64 uH] 29)) (.cells #[.int .i64 uL, .int .i64 (uL + 1), .int .i64 (uH - 1), .int .i64 uH] 3)
      rw [World.size_alloc] at this
      exact this
    case round =>
    obtain ⟨k, hk, rfl, HI⟩ := hrel
    clear hbel
    have p0 := blkCell HI.out.1.hb 0
    have p1 := blkCell HI.out.1.hb 1
    have p2 := blkCell HI.out.1.hb 2
    have q0 := blkCell HI.out.1.ha 0
    have q1 := blkCell HI.out.1.ha 1
    have q2 := blkCell HI.out.1.ha 2
    have q3 := blkCell HI.out.1.ha 3
    have q4 := blkCell HI.out.1.ha 4
    have y0 := blkCell HI.out.2.1 0
    have y1 := blkCell HI.out.2.1 1
    have z0 := blkCell HI.out.2.2 0
    have z1 := blkCell HI.out.2.2 1
    have z2 := blkCell HI.out.2.2 2
    have z3 := blkCell HI.out.2.2 3
    simp at p0 p1 p2 q0 q1 q2 q3 q4 y0 y1 z0 z1 z2 z3
    have m1 : ¬ W.heap.size = «wr».heap.size := by have := cell_lt p0; omega
    have m2 : ¬ W.heap.size + 1 = «wr».heap.size := by have := cell_lt q0; omega
    have m3 : ¬ w4.heap.size = «wr».heap.size := by have := cell_lt y0; omega
    have m4 : ¬ w4.heap.size + 1 = «wr».heap.size := by have := cell_lt z0; omega
    have g1 := cell_lt p0
    have g2 := cell_lt q0
    have g3 := cell_lt y0
    have g4 := cell_lt z0
    rcases (show k = 0 ∨ k = 1 ∨ k = 2 ∨ k = 3 ∨ k = 4 by omega) with rfl | rfl | rfl | rfl | rfl
    · have st := bursts_at HZ.out uL
      obtain ⟨hL, hH⟩ := HLH.out
      rw [← hL, ← hH] at st
      by_cases s0 : uL < 0
      · have n0 : decide (uL < 0) = true := decide_eq_true s0
        clear st hL hH
        go_wp2
        go_roundw
        case rel => exact ⟨1, by omega, rfl, HI⟩
        case measure => simp [intOf]
      have n0 : decide (uL < 0) = false := decide_eq_false s0
      by_cases s1 : 10000 < uL
      · have n1 : decide (10000 < uL) = true := decide_eq_true s1
        clear st hL hH
        go_wp2
        go_roundw
        case rel => exact ⟨1, by omega, rfl, HI⟩
        case measure => simp [intOf]
      have n1 : decide (10000 < uL) = false := decide_eq_false s1
      have HST := hid (st (by omega) (by omega))
      clear st hL hH
      go_wp2_with fail
      obtain ⟨hC, hl, hC0, hl0, hC9, hl9, hC19, hl19, hC20, hl20⟩ := HC.out
      have hbx := HI.out.1.be.alloc HI.out.1.be.size (.cells #[.int .i64 uL, .int .i64 a2, .int .i64 a3, .int .i64 a4] 27)
      refine (Holds_any A c l fl tg A0 c0 l0 uL a2 a3 a4 _ (Kd.C_below hC hbx) (Kd.C_below hC0 hbx) (by have := HL.out.1; omega) (by have := HL.out.2; omega)).mono ?_
      rintro e w6 ⟨rfl, hb⟩
      rw [HST.out]
      simp only
      have HIx := hid (And.intro (HI.out.1.grow (((Below.refl _ _).alloc (Nat.le_refl _) _).trans (hb.mono (by simp)))) (And.intro (heap_grow (alloc_old HI.out.2.1) hb) (heap_grow (alloc_old HI.out.2.2) hb)))
      have y0 := blkCell HIx.out.2.1 0
      have y1 := blkCell HIx.out.2.1 1
      simp at y0 y1
      clear hbx hb hC hl hC0 hl0 hC9 hl9 hC19 hl19 hC20 hl20
      go_wp2
      go_roundw
      case rel => exact ⟨1, by omega, rfl, HIx⟩
      case measure => simp [intOf]
    · have st := bursts_at HZ.out (uL + 1)
      obtain ⟨hL, hH⟩ := HLH.out
      rw [← hL, ← hH] at st
      by_cases s0 : (uL + 1) < 0
      · have n0 : decide ((uL + 1) < 0) = true := decide_eq_true s0
        clear st hL hH
        go_wp2
        go_roundw
        case rel => exact ⟨2, by omega, rfl, HI⟩
        case measure => simp [intOf]
      have n0 : decide ((uL + 1) < 0) = false := decide_eq_false s0
      by_cases s1 : 10000 < (uL + 1)
      · have n1 : decide (10000 < (uL + 1)) = true := decide_eq_true s1
        clear st hL hH
        go_wp2
        go_roundw
        case rel => exact ⟨2, by omega, rfl, HI⟩
        case measure => simp [intOf]
      have n1 : decide (10000 < (uL + 1)) = false := decide_eq_false s1
      have HST := hid (st (by omega) (by omega))
      clear st hL hH
      go_wp2_with fail
      obtain ⟨hC, hl, hC0, hl0, hC9, hl9, hC19, hl19, hC20, hl20⟩ := HC.out
      have hbx := HI.out.1.be.alloc HI.out.1.be.size (.cells #[.int .i64 (uL + 1), .int .i64 a2, .int .i64 a3, .int .i64 a4] 27)
      refine (Holds_any A c l fl tg A0 c0 l0 (uL + 1) a2 a3 a4 _ (Kd.C_below hC hbx) (Kd.C_below hC0 hbx) (by have := HL.out.1; omega) (by have := HL.out.2; omega)).mono ?_
      rintro e w6 ⟨rfl, hb⟩
      rw [HST.out]
      simp only
      have HIx := hid (And.intro (HI.out.1.grow (((Below.refl _ _).alloc (Nat.le_refl _) _).trans (hb.mono (by simp)))) (And.intro (heap_grow (alloc_old HI.out.2.1) hb) (heap_grow (alloc_old HI.out.2.2) hb)))
      have y0 := blkCell HIx.out.2.1 0
      have y1 := blkCell HIx.out.2.1 1
      simp at y0 y1
      clear hbx hb hC hl hC0 hl0 hC9 hl9 hC19 hl19 hC20 hl20
      go_wp2
      go_roundw
      case rel => exact ⟨2, by omega, rfl, HIx⟩
      case measure => simp [intOf]
    · have st := bursts_at HZ.out (uH - 1)
      obtain ⟨hL, hH⟩ := HLH.out
      rw [← hL, ← hH] at st
      by_cases s0 : (uH - 1) < 0
      · have n0 : decide ((uH - 1) < 0) = true := decide_eq_true s0
        clear st hL hH
        go_wp2
        go_roundw
        case rel => exact ⟨3, by omega, rfl, HI⟩
        case measure => simp [intOf]
      have n0 : decide ((uH - 1) < 0) = false := decide_eq_false s0
      by_cases s1 : 10000 < (uH - 1)
      · have n1 : decide (10000 < (uH - 1)) = true := decide_eq_true s1
        clear st hL hH
        go_wp2
        go_roundw
        case rel => exact ⟨3, by omega, rfl, HI⟩
        case measure => simp [intOf]
      have n1 : decide (10000 < (uH - 1)) = false := decide_eq_false s1
      have HST := hid (st (by omega) (by omega))
      clear st hL hH
      go_wp2_with fail
      obtain ⟨hC, hl, hC0, hl0, hC9, hl9, hC19, hl19, hC20, hl20⟩ := HC.out
      have hbx := HI.out.1.be.alloc HI.out.1.be.size (.cells #[.int .i64 (uH - 1), .int .i64 a2, .int .i64 a3, .int .i64 a4] 27)
      refine (Holds_any A c l fl tg A0 c0 l0 (uH - 1) a2 a3 a4 _ (Kd.C_below hC hbx) (Kd.C_below hC0 hbx) (by have := HL.out.1; omega) (by have := HL.out.2; omega)).mono ?_
      rintro e w6 ⟨rfl, hb⟩
      rw [HST.out]
      simp only
      have HIx := hid (And.intro (HI.out.1.grow (((Below.refl _ _).alloc (Nat.le_refl _) _).trans (hb.mono (by simp)))) (And.intro (heap_grow (alloc_old HI.out.2.1) hb) (heap_grow (alloc_old HI.out.2.2) hb)))
      have y0 := blkCell HIx.out.2.1 0
      have y1 := blkCell HIx.out.2.1 1
      simp at y0 y1
      clear hbx hb hC hl hC0 hl0 hC9 hl9 hC19 hl19 hC20 hl20
      go_wp2
      go_roundw
      case rel => exact ⟨3, by omega, rfl, HIx⟩
      case measure => simp [intOf]
    · have st := bursts_at HZ.out uH
      obtain ⟨hL, hH⟩ := HLH.out
      rw [← hL, ← hH] at st
      by_cases s0 : uH < 0
      · have n0 : decide (uH < 0) = true := decide_eq_true s0
        clear st hL hH
        go_wp2
        go_roundw
        case rel => exact ⟨4, by omega, rfl, HI⟩
        case measure => simp [intOf]
      have n0 : decide (uH < 0) = false := decide_eq_false s0
      by_cases s1 : 10000 < uH
      · have n1 : decide (10000 < uH) = true := decide_eq_true s1
        clear st hL hH
        go_wp2
        go_roundw
        case rel => exact ⟨4, by omega, rfl, HI⟩
        case measure => simp [intOf]
      have n1 : decide (10000 < uH) = false := decide_eq_false s1
      have HST := hid (st (by omega) (by omega))
      clear st hL hH
      go_wp2_with fail
      obtain ⟨hC, hl, hC0, hl0, hC9, hl9, hC19, hl19, hC20, hl20⟩ := HC.out
      have hbx := HI.out.1.be.alloc HI.out.1.be.size (.cells #[.int .i64 uH, .int .i64 a2, .int .i64 a3, .int .i64 a4] 27)
      refine (Holds_any A c l fl tg A0 c0 l0 uH a2 a3 a4 _ (Kd.C_below hC hbx) (Kd.C_below hC0 hbx) (by have := HL.out.1; omega) (by have := HL.out.2; omega)).mono ?_
      rintro e w6 ⟨rfl, hb⟩
      rw [HST.out]
      simp only
      have HIx := hid (And.intro (HI.out.1.grow (((Below.refl _ _).alloc (Nat.le_refl _) _).trans (hb.mono (by simp)))) (And.intro (heap_grow (alloc_old HI.out.2.1) hb) (heap_grow (alloc_old HI.out.2.2) hb)))
      have y0 := blkCell HIx.out.2.1 0
      have y1 := blkCell HIx.out.2.1 1
      simp at y0 y1
      clear hbx hb hC hl hC0 hl0 hC9 hl9 hC19 hl19 hC20 hl20
      go_wp2
      go_roundw
      case rel => exact ⟨4, by omega, rfl, HIx⟩
      case measure => simp [intOf]
    · have n2 : decide (-1 ≤ uL) = true := decide_eq_true HU.out.1
      have n3 : decide (uH ≤ 10001) = true := decide_eq_true HU.out.2
      go_wp2_with (first | (go_at_call 14; refine (lives_any _).mono ?_; rintro e w7 ⟨rfl, hb⟩))
      refine bodyPost_ret (v := .bool true) (by simp [results, Try.results7, go_sem]) rfl ⟨rfl, HI.out.1.be.trans (hb.mono HI.out.1.be.size)⟩
end Go.Proofs.Ythoofldinnfpiaa
