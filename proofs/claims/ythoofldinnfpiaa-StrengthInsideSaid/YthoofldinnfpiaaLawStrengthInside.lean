import Derived.Test.YthoofldinnfpiaaLW
import Derived.Test.YthoofldinnfpiaaPI
import Derived.Test.YthoofldinnfpiaaFL
namespace Go.Proofs.Ythoofldinnfpiaa
open Go.RowKit Go.Proofs.YthoofldinnfpiaaW.PrintWords Go.Proofs.YthoofldinnfpiaaW.PrintLast Go.Proofs.YthoofldinnfpiaaW.PrintMore
open Q Go.Shelf
attribute [local go_sem] Oper.semAt_some wide_depth wide_fn
set_option linter.unusedVariables false
theorem size33 : (Try.prog.info? 33).map (·.size) = some 21 := by kernel_rfl
theorem loadVar_ne (t : TypeId) (a : Addr) (h : ¬ t = 33) : loadVar t a = (do if ← isAgg t then pure (.agg (← loadCells a (← sizeOf t))) else load a) := rfl
attribute [-go_sem] loadVar
attribute [local go_sem] loadVar_ne
set_option maxRecDepth 100000 in
set_option maxHeartbeats 8000000 in
set_option pp.deepTerms true in
set_option pp.maxSteps 1000000 in
theorem strengthInside_calls (A : Option Addr) (c : Nat) (l : List S82) (fl tg : Int) (A0 : Option Addr) (c0 : Nat) (l0 : List S29) (a1 a2 a3 a4 a5 a6 a7 a8 : Int) (A9 : Option Addr) (c9 : Nat) (l9 : List Int) (a10 a11 a12 a13 a14 a15 a16 a17 a18 : Int) (A19 : Option Addr) (c19 : Nat) (l19 : List Int) (A20 : Option Addr) (c20 : Nat) (l20 : List S118) (Ap : Option Addr) (cp : Nat) (pl : List Int) (W : World)
    (hC : Kd.C k82 W A l.length l) (hl : l.length ≤ c) (hC0 : Kd.C k29 W A0 l0.length l0) (hl0 : l0.length ≤ c0) (hC9 : Kd.C (Kd.int .i64) W A9 l9.length l9) (hl9 : l9.length ≤ c9) (hC19 : Kd.C (Kd.int .i64) W A19 l19.length l19) (hl19 : l19.length ≤ c19) (hC20 : Kd.C k118 W A20 l20.length l20) (hl20 : l20.length ≤ c20)
    (hCp : Kd.C (Kd.int .u8) W Ap pl.length pl) (hlp : pl.length ≤ cp) (wp : ∀ y ∈ pl, 0 ≤ y ∧ y ≤ 255)
    (wl : ∀ y ∈ l, W82 y) (w1 : W64 fl) (w2 : W64 tg)
    (wf : (∀ y ∈ l0, W29 y) ∧ (W64 a1 ∧ W64 a2 ∧ W64 a3 ∧ W64 a4) ∧ W64 a5 ∧ W64 a6 ∧ W64 a7 ∧ W64 a8 ∧ (∀ y ∈ l9, W64 y) ∧ W64 a10 ∧ W64 a11 ∧ W64 a12 ∧ W64 a13 ∧ W64 a14 ∧ W64 a15 ∧ W64 a16 ∧ W64 a17 ∧ W64 a18 ∧ (∀ y ∈ l19, W64 y) ∧ ∀ y ∈ l20, W118 y) :
    Calls Try.prog 9 #[.agg #[.slice A l.length c, .int .i64 fl, .int .i64 tg], .agg #[.slice A0 l0.length c0, .int .i64 a1, .int .i64 a2, .int .i64 a3, .int .i64 a4, .int .i64 a5, .int .i64 a6, .int .i64 a7, .int .i64 a8, .slice A9 l9.length c9, .int .i64 a10, .int .i64 a11, .int .i64 a12, .int .i64 a13, .int .i64 a14, .int .i64 a15, .int .i64 a16, .int .i64 a17, .int .i64 a18, .slice A19 l19.length c19, .slice A20 l20.length c20], .slice Ap pl.length cp] W fun e w' => e = .returned (.bool true) ∧ Below W.heap.size W w' := by
  have HB := Below.refl W.heap.size W
  obtain ⟨b, ⟨K, hK⟩, hw⟩ := wide05 l0 a1 a2 a3 a4 a5 a6 a7 a8 l9 a10 a11 a12 a13 a14 a15 a16 a17 a18 l19 l20
  have HW := hid (hK K (Nat.le_refl _))
  have HC := hid (And.intro hC (And.intro hl (And.intro hC0 (And.intro hl0 (And.intro hC9 (And.intro hl9 (And.intro hC19 (And.intro hl19 (And.intro hC20 hl20)))))))))
  have HP := hid (And.intro hCp (And.intro hlp wp))
  have hu24 := Try.underlying24
  have hu33 := Try.underlying33
  have hu27 := Try.underlying27
  have hu29 := Try.underlying29
  clear hK hC hl hC0 hl0 hC9 hl9 hC19 hl19 hC20 hl20 wl w1 w2 wf hCp hlp wp
  go_enter Try.func9, Try.ntmps9
  go_wp2_with fail
  obtain ⟨hC, hl, hC0, hl0, hC9, hl9, hC19, hl19, hC20, hl20⟩ := HC.out
  have hbel := (HB.alloc (Nat.le_refl _) (.cells #[.slice A l.length c, .int .i64 fl, .int .i64 tg] 24)).alloc (by simp) (.cells #[.slice A0 l0.length c0, .int .i64 a1, .int .i64 a2, .int .i64 a3, .int .i64 a4, .int .i64 a5, .int .i64 a6, .int .i64 a7, .int .i64 a8, .slice A9 l9.length c9, .int .i64 a10, .int .i64 a11, .int .i64 a12, .int .i64 a13, .int .i64 a14, .int .i64 a15, .int .i64 a16, .int .i64 a17, .int .i64 a18, .slice A19 l19.length c19, .slice A20 l20.length c20] 33)
  have e0 := World.alloc_heap_new W (.cells #[.slice A l.length c, .int .i64 fl, .int .i64 tg] 24)
  have e1 := World.alloc_heap_new (W.alloc (.cells #[.slice A l.length c, .int .i64 fl, .int .i64 tg] 24)) (.cells #[.slice A0 l0.length c0, .int .i64 a1, .int .i64 a2, .int .i64 a3, .int .i64 a4, .int .i64 a5, .int .i64 a6, .int .i64 a7, .int .i64 a8, .slice A9 l9.length c9, .int .i64 a10, .int .i64 a11, .int .i64 a12, .int .i64 a13, .int .i64 a14, .int .i64 a15, .int .i64 a16, .int .i64 a17, .int .i64 a18, .slice A19 l19.length c19, .slice A20 l20.length c20] 33)
  have e0 := alloc_old (o' := .cells #[.slice A0 l0.length c0, .int .i64 a1, .int .i64 a2, .int .i64 a3, .int .i64 a4, .int .i64 a5, .int .i64 a6, .int .i64 a7, .int .i64 a8, .slice A9 l9.length c9, .int .i64 a10, .int .i64 a11, .int .i64 a12, .int .i64 a13, .int .i64 a14, .int .i64 a15, .int .i64 a16, .int .i64 a17, .int .i64 a18, .slice A19 l19.length c19, .slice A20 l20.length c20] 33) e0
  rw [World.size_alloc] at e1
  have hI : LawB W A c l fl tg A0 c0 l0 a1 a2 a3 a4 a5 a6 a7 a8 A9 c9 l9 a10 a11 a12 a13 a14 a15 a16 a17 a18 A19 c19 l19 A20 c20 l20 ((W.alloc (.cells #[.slice A l.length c, .int .i64 fl, .int .i64 tg] 24)).alloc (.cells #[.slice A0 l0.length c0, .int .i64 a1, .int .i64 a2, .int .i64 a3, .int .i64 a4, .int .i64 a5, .int .i64 a6, .int .i64 a7, .int .i64 a8, .slice A9 l9.length c9, .int .i64 a10, .int .i64 a11, .int .i64 a12, .int .i64 a13, .int .i64 a14, .int .i64 a15, .int .i64 a16, .int .i64 a17, .int .i64 a18, .slice A19 l19.length c19, .slice A20 l20.length c20] 33)) := ⟨e0, e1, hbel⟩
  generalize ((W.alloc (.cells #[.slice A l.length c, .int .i64 fl, .int .i64 tg] 24)).alloc (.cells #[.slice A0 l0.length c0, .int .i64 a1, .int .i64 a2, .int .i64 a3, .int .i64 a4, .int .i64 a5, .int .i64 a6, .int .i64 a7, .int .i64 a8, .slice A9 l9.length c9, .int .i64 a10, .int .i64 a11, .int .i64 a12, .int .i64 a13, .int .i64 a14, .int .i64 a15, .int .i64 a16, .int .i64 a17, .int .i64 a18, .slice A19 l19.length c19, .slice A20 l20.length c20] 33)) = W2 at *
  refine (great_any A c l fl tg _ (Kd.C_below hC hI.be) hl).mono ?_
  rintro e w1 ⟨rfl, hb⟩
  have HI1 := hid (hI.grow hb)
  clear hI hb e0 e1 hbel hC hl hC0 hl0 hC9 hl9 hC19 hl19 hC20 hl20 HB
  cases hg : decide ((l.length : Int) > 40) with
  | true =>
    go_wp2_with (first | (go_at_call 14; refine (lives_any _).mono ?_; rintro e w9 ⟨rfl, hb⟩))
    refine bodyPost_ret (v := .bool true) (by simp [results, Try.results9, go_sem]) rfl ⟨rfl, HI1.out.be.trans (hb.mono HI1.out.be.size)⟩
  | false =>
  have HG := hid hg
  clear hg
  have hld := run_loadVar_row (P := Try.prog) w1 (W.heap.size + 1) 33 33 #[.slice A0 l0.length c0, .int .i64 a1, .int .i64 a2, .int .i64 a3, .int .i64 a4, .int .i64 a5, .int .i64 a6, .int .i64 a7, .int .i64 a8, .slice A9 l9.length c9, .int .i64 a10, .int .i64 a11, .int .i64 a12, .int .i64 a13, .int .i64 a14, .int .i64 a15, .int .i64 a16, .int .i64 a17, .int .i64 a18, .slice A19 l19.length c19, .slice A20 l20.length c20] (0, 0) _ HI1.out.ha Try.underlying33 rfl size33
  go_wp2_with fail
  obtain ⟨hC, hl, hC0, hl0, hC9, hl9, hC19, hl19, hC20, hl20⟩ := HC.out
  have hbe := HI1.out.be
  refine (culletlaw05_Wide.calls K A0 c0 l0 a1 a2 a3 a4 a5 a6 a7 a8 A9 c9 l9 a10 a11 a12 a13 a14 a15 a16 a17 a18 A19 c19 l19 A20 c20 l20 b _ (Kd.C_below hC0 hbe) hl0 (Kd.C_below hC9 hbe) hl9 (Kd.C_below hC19 hbe) hl19 (Kd.C_below hC20 hbe) hl20 HW.out).mono ?_
  rintro e w3 ⟨rfl, hb⟩
  have HI3 := hid (HI1.out.grow hb)
  clear hb hbe hC hl hC0 hl0 hC9 hl9 hC19 hl19 hC20 hl20 hld HI1
  cases b with
  | true =>
    go_wp2_with (first | (go_at_call 14; refine (lives_any _).mono ?_; rintro e w9 ⟨rfl, hb⟩))
    refine bodyPost_ret (v := .bool true) (by simp [results, Try.results9, go_sem]) rfl ⟨rfl, HI3.out.be.trans (hb.mono HI3.out.be.size)⟩
  | false =>
  cases hp : decide ((300 : Int) < (pl.length : Int)) with
  | true =>
    go_wp2_with (first | (go_at_call 14; refine (lives_any _).mono ?_; rintro e w9 ⟨rfl, hb⟩))
    refine bodyPost_ret (v := .bool true) (by simp [results, Try.results9, go_sem]) rfl ⟨rfl, HI3.out.be.trans (hb.mono HI3.out.be.size)⟩
  | false =>
  have hp3 : pl.length ≤ 300 := by simp at hp; omega
  have HPL := hid hp3
  clear hp3
  have p0 := blkCell HI3.out.hb 0
  have p1 := blkCell HI3.out.hb 1
  have p2 := blkCell HI3.out.hb 2
  have q0 := blkCell HI3.out.ha 0
  have q1 := blkCell HI3.out.ha 1
  have q2 := blkCell HI3.out.ha 2
  have q3 := blkCell HI3.out.ha 3
  have q4 := blkCell HI3.out.ha 4
  simp at p0 p1 p2 q0 q1 q2 q3 q4
  have hth := (hw rfl).1
  have hth9 := (hw rfl).2
  have hll : l.length ≤ 40 := by have := HG.out; simp at this; omega
  clear hw
  have HL := hid (And.intro hth (And.intro hll hth9))
  clear hth hll hth9
  go_wp2_with fail
  obtain ⟨hC, hl, hC0, hl0, hC9, hl9, hC19, hl19, hC20, hl20⟩ := HC.out
  refine (Stress_any A c l fl tg A0 c0 l0 a1 a2 a3 a4 _ (Kd.C_below hC HI3.out.be) (Kd.C_below hC0 HI3.out.be) (by have := HL.out.1; omega) (by have := HL.out.2.1; omega)).mono ?_
  rintro e w4 ⟨x1, rfl, hv1, hb⟩
  have HI4 := hid (HI3.out.grow hb)
  obtain ⟨A1, c1, rfl, hC1, hl1⟩ := row_open hv1
  have HV1 := hid (And.intro hC1 hl1)
  clear hb hC hl hC0 hl0 hC9 hl9 hC19 hl19 hC20 hl20 p0 p1 p2 q0 q1 q2 q3 q4 HI3 hv1 hC1 hl1
  have p0 := blkCell HI4.out.hb 0
  have p1 := blkCell HI4.out.hb 1
  have p2 := blkCell HI4.out.hb 2
  have q0 := blkCell HI4.out.ha 0
  have q1 := blkCell HI4.out.ha 1
  have q2 := blkCell HI4.out.ha 2
  have q3 := blkCell HI4.out.ha 3
  have q4 := blkCell HI4.out.ha 4
  simp at p0 p1 p2 q0 q1 q2 q3 q4
  go_wp2_with fail
  obtain ⟨hC, hl, hC0, hl0, hC9, hl9, hC19, hl19, hC20, hl20⟩ := HC.out
  refine (Holds_any A c l fl tg A0 c0 l0 a1 a2 a3 a4 _ (Kd.C_below hC HI4.out.be) (Kd.C_below hC0 HI4.out.be) (by have := HL.out.1; omega) (by have := HL.out.2.1; omega)).mono ?_
  rintro e w5 ⟨rfl, hb⟩
  have HI5 := hid (HI4.out.grow hb)
  have HV2 := hid (And.intro (Kd.C_below HV1.out.1 hb) HV1.out.2)
  clear hb hC hl hC0 hl0 hC9 hl9 hC19 hl19 hC20 hl20 p0 p1 p2 q0 q1 q2 q3 q4 HI4 HV1
  have p0 := blkCell HI5.out.hb 0
  have p1 := blkCell HI5.out.hb 1
  have p2 := blkCell HI5.out.hb 2
  have q0 := blkCell HI5.out.ha 0
  have q1 := blkCell HI5.out.ha 1
  have q2 := blkCell HI5.out.ha 2
  have q3 := blkCell HI5.out.ha 3
  have q4 := blkCell HI5.out.ha 4
  simp at p0 p1 p2 q0 q1 q2 q3 q4
  go_wp2_with fail
  obtain ⟨hC, hl, hC0, hl0, hC9, hl9, hC19, hl19, hC20, hl20⟩ := HC.out
  refine (Burst_any A c l fl tg A0 c0 l0 a1 a2 a3 a4 _ (Kd.C_below hC HI5.out.be) (Kd.C_below hC0 HI5.out.be) (by have := HL.out.1; omega) (by have := HL.out.2.1; omega)).mono ?_
  rintro e w6 ⟨rfl, hb⟩
  have hI6 := HI5.out.grow hb
  have HI6 := hid hI6
  have HV3 := hid (And.intro (Kd.C_below HV2.out.1 hb) HV2.out.2)
  clear hb hC hl hC0 hl0 hC9 hl9 hC19 hl19 hC20 hl20 p0 p1 p2 q0 q1 q2 q3 q4 HI5 HV2
  by_cases hz : ¬ askedOf l fl tg l0 a1 a2 a3 a4 = 0
  · rw [(all_bad hz).1, (all_bad hz).2.1, (all_bad hz).2.2]
    clear HV3 hI6
    generalize askedOf l fl tg l0 a1 a2 a3 a4 = ek at *
    have hzb : (ek != 0) = true := by simpa using hz
    simp only [List.length_nil]
    go_wp2_with (first | (go_at_call 14; refine (lives_any _).mono ?_; rintro e w7 ⟨rfl, hb⟩))
    refine bodyPost_ret (v := .bool true) (by simp [results, Try.results9, go_sem]) rfl ⟨rfl, (HI6.out.be.alloc HI6.out.be.size _).trans (hb.mono (HI6.out.be.alloc HI6.out.be.size _).size)⟩
  have hz' := Decidable.not_not.1 hz
  have HZ := hid hz'
  obtain ⟨g1, g2, g3⟩ := all_good hz'
  rw [g1, g2, g3]
  clear hz hz' g1 g2 g3
  obtain ⟨sl, hsl⟩ : ∃ x, (stressRes l fl tg l0 a1 a2 a3 a4).1 = x := ⟨_, rfl⟩
  obtain ⟨h1, hh1⟩ : ∃ x, (holdsRes l fl tg l0 a1 a2 a3 a4).1 = x := ⟨_, rfl⟩
  obtain ⟨h2, hh2⟩ : ∃ x, (holdsRes l fl tg l0 a1 a2 a3 a4).2.1 = x := ⟨_, rfl⟩
  obtain ⟨u1, hu1⟩ : ∃ x, (burstRes l fl tg l0 a1 a2 a3 a4).1 = x := ⟨_, rfl⟩
  obtain ⟨u2, hu2⟩ : ∃ x, (burstRes l fl tg l0 a1 a2 a3 a4).2.1 = x := ⟨_, rfl⟩
  rw [hsl] at HV3
  rw [hsl, hh1, hh2, hu1, hu2]
  have HE := hid (And.intro hsl (And.intro hh1 (And.intro hh2 (And.intro hu1 hu2))))
  clear hsl hh1 hh2 hu1 hu2
  have g1 := cell_lt (blkCell hI6.hb 0)
  have g2 := cell_lt (blkCell hI6.ha 0)
  have p0 := blkCell hI6.hb 0
  have p1 := blkCell hI6.hb 1
  have p2 := blkCell hI6.hb 2
  have q0 := blkCell hI6.ha 0
  have q1 := blkCell hI6.ha 1
  have q2 := blkCell hI6.ha 2
  have q3 := blkCell hI6.ha 3
  have q4 := blkCell hI6.ha 4
  simp at p0 p1 p2 q0 q1 q2 q3 q4
  clear hI6
  go_wp2_with fail
  obtain ⟨hC, hl, hC0, hl0, hC9, hl9, hC19, hl19, hC20, hl20⟩ := HC.out
  have hI6b := HI6.out.grow ((Below.refl _ _).alloc (Nat.le_refl _) (.cells #[.int .i64 u1, .int .i64 u2] 29))
  have hn6 := World.alloc_heap_new w6 (.cells #[.int .i64 u1, .int .i64 u2] 29)
  have hC1 := Kd.C_below HV3.out.1 ((Below.refl _ _).alloc (Nat.le_refl _) (.cells #[.int .i64 u1, .int .i64 u2] 29))
  refine (real_any A c fl tg Ap cp _ (Kd.C_below hC hI6b.be) hl (Kd.C_below HP.out.1 hI6b.be) HP.out.2.1 (check_zero (asked_zero HZ.out).1).2.2.1 (by have := HL.out.2.1; omega) HP.out.2.2).mono ?_
  rintro e w7 ⟨A2, c2, rfl, hC2, hl2, hb⟩
  have HI7 := hid (hI6b.grow hb)
  have HN7 := hid (heap_grow hn6 hb)
  have HV7 := hid (And.intro (Kd.C_below hC1 hb) HV3.out.2)
  have HC2 := hid (And.intro hC2 hl2)
  clear hb hC hl hC0 hl0 hC9 hl9 hC19 hl19 hC20 hl20 p0 p1 p2 q0 q1 q2 q3 q4 HI6 HV3 hC1 hI6b hn6 hC2 hl2 g1 g2
  have hcx := World.alloc_heap_new w7 (.cells #[.slice A2 (realOf l pl).length c2, .int .i64 fl, .int .i64 tg] 24)
  have hbx := (Below.refl w7.heap.size w7).alloc (Nat.le_refl _) (.cells #[.slice A2 (realOf l pl).length c2, .int .i64 fl, .int .i64 tg] 24)
  have hsx : w7.heap.size + 1 ≤ (w7.alloc (.cells #[.slice A2 (realOf l pl).length c2, .int .i64 fl, .int .i64 tg] 24)).heap.size := by simp
  have HK0 := hid (And.intro hbx (And.intro hcx (And.intro (own_nil (w7.alloc (.cells #[.slice A2 (realOf l pl).length c2, .int .i64 fl, .int .i64 tg] 24)) (w7.heap.size + 1) 29 2) hsx)))
  clear hcx hbx hsx
  go_wp2
  go_loopw [15, 16] (fun v15 v16 X => ∃ k : Nat, k ≤ l0.length ∧ v16 = .int .i64 k ∧ Hid (Below w7.heap.size w7 X ∧ X.heap[w7.heap.size]? = some (.cells #[.slice A2 (realOf l pl).length c2, .int .i64 fl, .int .i64 tg] 24 (0, 0)) ∧ X.ownsRow (w7.heap.size + 1) 29 2 v15 k ((List.range k).flatMap (pickC l0 pl)) ∧ w7.heap.size + 1 ≤ X.heap.size)) (fun _ v16 _ => l0.length - (intOf v16).toNat)
  case atStart => exact ⟨0, by omega, rfl, hid ⟨HK0.out.1, HK0.out.2.1, HK0.out.2.2.1, HK0.out.2.2.2⟩⟩
  case round =>
  obtain ⟨k, hk, rfl, HX⟩ := hrel
  have hIr := HI7.out.grow HX.out.1
  by_cases hlt : k < l0.length
  · have hd : decide ((k : Int) < (l0.length : Int)) = true := decide_eq_true (by omega)
    have q0 := blkCell hIr.ha 0
    simp at q0
    go_wp2_with fail
    clear q0
    obtain ⟨_, hC0⟩ : l0.length ≤ c0 ∧ Kd.C k29 wr A0 l0.length l0 := ⟨HC.out.2.2.2.1, Kd.C_below HC.out.2.2.1 hIr.be⟩
    have hCp := Kd.C_below HP.out.1 hIr.be
    have hlp := HP.out.2.1
    have hth' := at_T29 hC0 k (by omega) (by omega)
    rw [rd29 hlt] at hth'
    simp only [Int.toNat_natCast] at hth'
    obtain ⟨ad, had, t0, t1⟩ := hth'
    subst had
    obtain ⟨ht1, ht2, ht3⟩ := thick_ok (List.all_eq_true.1 (asked_zero HZ.out).2.2.1 _ (List.getElem_mem hlt))
    have h5k : 0 ≤ wrap64 (5 * (k : Int)) := by rw [wrap64_id (by omega) (by have := HL.out.1; omega)]; omega
    have hp1 : 0 ≤ l0[k].f0 := by omega
    have hp2 := ht2
    have hp3 : l0[k].f1 ≤ 1000000000 := by omega
    have hp4 := (atOf_le HP.out.2.2 (wrap64 (5 * (k : Int)))).1
    have hp5 := (atOf_le HP.out.2.2 (wrap64 (5 * (k : Int)))).2
    have HN : Hid ([.int .i64 (pickE l0[k].f0 l0[k].f1 (atOf pl (wrap64 (5 * k)))), .int .i64 (pickE l0[k].f0 l0[k].f1 (atOf pl (wrap64 (5 * k))))] = pickC l0 pl k) := hid (by simp [pickC, pickAt, one, rd29 hlt])
    refine wp_flow3 [[], [], [1], [], [2, 1, 3], [4, 2, 1, 3], [], [], [7], [6, 8, 7], [5, 4, 2, 1, 3, 9, 6, 8, 7], [10, 5, 4, 2, 1, 3, 9, 6, 8, 7], [11, 10, 5, 4, 2, 1, 3, 9, 6, 8, 7], [0, 12, 11, 10, 5, 4, 2, 1, 3, 9, 6, 8, 7], [13, 0, 12, 11, 10, 5, 4, 2, 1, 3, 9, 6, 8, 7]] 12
      (fun V => V.cell? ⟨(W.heap.size + 1), 0, none⟩ = some (.slice (some ad) l0.length c0) ∧ V.cell? (ad.add (k * 2)) = some (.int .i64 l0[k].f0) ∧ V.cell? ⟨(ad.add (k * 2)).block, (ad.add (k * 2)).off + 1, none⟩ = some (.int .i64 l0[k].f1) ∧ Below wr.heap.size wr V)
      (fun u V => (V.cell? ⟨(W.heap.size + 1), 0, none⟩ = some (.slice (some ad) l0.length c0) ∧ V.cell? (ad.add (k * 2)) = some (.int .i64 l0[k].f0) ∧ V.cell? ⟨(ad.add (k * 2)).block, (ad.add (k * 2)).off + 1, none⟩ = some (.int .i64 l0[k].f1) ∧ Below wr.heap.size wr V) ∧ ∃ Bx, u = .slice (some ⟨Bx, 0, none⟩) 1 1 ∧ V.heap[Bx]? = some (.cells #[.int .i64 (pickE l0[k].f0 l0[k].f1 (atOf pl (wrap64 (5 * k)))), .int .i64 (pickE l0[k].f0 l0[k].f1 (atOf pl (wrap64 (5 * k))))] 29 (0, 0)) ∧ wr.heap.size ≤ Bx)
      { tmps := #[.agg #[.slice A l.length c, .int .i64 fl, .int .i64 tg], .agg #[.slice (some ad) l0.length c0, .int .i64 a1, .int .i64 a2, .int .i64 a3, .int .i64 a4, .int .i64 a5, .int .i64 a6, .int .i64 a7, .int .i64 a8, .slice A9 l9.length c9, .int .i64 a10, .int .i64 a11, .int .i64 a12, .int .i64 a13, .int .i64 a14, .int .i64 a15, .int .i64 a16, .int .i64 a17, .int .i64 a18, .slice A19 l19.length c19, .slice A20 l20.length c20], .slice Ap pl.length cp, .pointer (some ⟨W.heap.size, 0, none⟩), .pointer (some ⟨(W.heap.size + 1), 0, none⟩), undef, .bool false, .slice A1 sl.length c1, .int .i64 0, .bool h1, .bool h2, .int .i64 0, .pointer (some ⟨w6.heap.size, 0, none⟩), .int .i64 0, .pointer (some ⟨w7.heap.size, 0, none⟩), u15, .int .i64 k, undef, undef, undef, undef, undef, undef, .agg #[.slice A l.length c, .int .i64 fl, .int .i64 tg], .bool false, .bool false, .agg #[.slice (some ad) l0.length c0, .int .i64 a1, .int .i64 a2, .int .i64 a3, .int .i64 a4, .int .i64 a5, .int .i64 a6, .int .i64 a7, .int .i64 a8, .slice A9 l9.length c9, .int .i64 a10, .int .i64 a11, .int .i64 a12, .int .i64 a13, .int .i64 a14, .int .i64 a15, .int .i64 a16, .int .i64 a17, .int .i64 a18, .slice A19 l19.length c19, .slice A20 l20.length c20], .bool false, .bool false, .bool false, .slice Ap pl.length cp, .int .i64 pl.length, .bool false, .bool false, undef, .tuple #[.slice A1 sl.length c1, .int .i64 0], .agg #[.slice A l.length c, .int .i64 fl, .int .i64 tg], .pointer (some ⟨W.heap.size + 1, 0, none⟩), .slice (some ad) l0.length c0, .pointer (some ⟨W.heap.size + 1, 1, none⟩), .agg #[.int .i64 a1, .int .i64 a2, .int .i64 a3, .int .i64 a4], .tuple #[.slice A1 sl.length c1, .int .i64 0], .slice A1 sl.length c1, .int .i64 0, .tuple #[.bool h1, .bool h2, .int .i64 0], .agg #[.slice A l.length c, .int .i64 fl, .int .i64 tg], .pointer (some ⟨W.heap.size + 1, 0, none⟩), .slice (some ad) l0.length c0, .pointer (some ⟨W.heap.size + 1, 1, none⟩), .agg #[.int .i64 a1, .int .i64 a2, .int .i64 a3, .int .i64 a4], .tuple #[.bool h1, .bool h2, .int .i64 0], .bool h1, .bool h2, .int .i64 0, .tuple #[.agg #[.int .i64 u1, .int .i64 u2], .int .i64 0], .agg #[.slice A l.length c, .int .i64 fl, .int .i64 tg], .pointer (some ⟨W.heap.size + 1, 0, none⟩), .slice (some ad) l0.length c0, .pointer (some ⟨W.heap.size + 1, 1, none⟩), .agg #[.int .i64 a1, .int .i64 a2, .int .i64 a3, .int .i64 a4], .tuple #[.agg #[.int .i64 u1, .int .i64 u2], .int .i64 0], .agg #[.int .i64 u1, .int .i64 u2], .int .i64 0, .int .i64 0, .bool false, undef, undef, undef, undef, undef, undef, undef, undef, undef, undef, undef, undef, undef, undef, undef, undef, .agg #[.slice A l.length c, .int .i64 fl, .int .i64 tg], .slice Ap pl.length cp, .agg #[.slice A2 (realOf l pl).length c2, .int .i64 fl, .int .i64 tg], .int .i64 k, .pointer (some ⟨W.heap.size + 1, 0, none⟩), .slice (some ad) l0.length c0, .int .i64 l0.length, .bool true, u89, u90, u15, .pointer (some ⟨(W.heap.size + 1), 0, none⟩), .slice (some ad) l0.length c0, .int .i64 k, .pointer (some (ad.add (k * 2))), .agg #[.int .i64 (l0[k].f0), .int .i64 (l0[k].f1)], .slice Ap pl.length cp, .int .i64 k, .int .i64 (wrap64 (5 * k)), .int .u8 (atOf pl (wrap64 (5 * k))), .int .i64 (pickE l0[k].f0 l0[k].f1 (atOf pl (wrap64 (5 * k)))), .agg #[.int .i64 (pickE l0[k].f0 l0[k].f1 (atOf pl (wrap64 (5 * k)))), .int .i64 (pickE l0[k].f0 l0[k].f1 (atOf pl (wrap64 (5 * k))))], u103, u104, undef, undef, undef, undef, undef, undef, undef, undef, undef, undef, undef, undef, undef, undef, undef, undef, undef, undef, undef, undef, undef, undef, undef, undef, undef, undef, undef, undef, undef, undef, undef, undef, undef, undef, undef, undef, undef, undef, undef, undef, undef, undef, undef, undef, undef, undef, undef, undef, undef, undef, undef, undef, undef, undef, undef, undef, undef, undef, undef, undef, undef, undef, undef, undef, undef, undef, undef, undef, undef, undef, undef, undef, undef, undef, undef, undef, undef, undef, undef, undef, undef, undef, undef, undef, undef, undef, undef, undef, undef, undef, undef, undef, undef, undef, undef, undef, undef, undef, undef], defers := [] }
      mixed (by kernel_rfl) rfl (Ahead.of3 91 103 rfl rfl (by kernel_rfl) rfl rfl) ?_ ?_ ?_ rfl ?_
    · exact ⟨blkCell hIr.ha 0, t0, t1, (Below.refl _ _).drew⟩
    · refine EachOp3.ops rfl ⟨?_, ?_, ?_, ?_, ?_, ?_, ?_, ?_, ?_, ?_, ?_, ?_, trivial⟩
      · exact .inr (LookOp.either (fun _ _ h => h.1) (LookOp.val 91 _ rfl rfl fun V ⟨y0, x0, x1, hB_⟩ => by go_simp <;> exact IntWalk.i64_left _))
      · exact .inr (LookOp.either (fun _ _ h => h.1) (LookOp.val 92 _ rfl rfl fun V ⟨y0, x0, x1, hB_⟩ => by go_simp <;> exact IntWalk.i64_left _))
      · exact .inr (LookOp.either (fun _ _ h => h.1) (LookOp.val 93 _ rfl rfl fun V ⟨y0, x0, x1, hB_⟩ => by go_simp <;> exact IntWalk.i64_left _))
      · exact .inr (LookOp.either (fun _ _ h => h.1) (LookOp.val 94 _ rfl rfl fun V ⟨y0, x0, x1, hB_⟩ => by go_simp <;> exact IntWalk.i64_left _))
      · exact .inr (LookOp.either (fun _ _ h => h.1) (LookOp.val 95 _ rfl rfl fun V ⟨y0, x0, x1, hB_⟩ => by go_simp <;> exact IntWalk.i64_left _))
      · exact .inr (LookOp.either (fun _ _ h => h.1) (LookOp.val 96 _ rfl rfl fun V ⟨y0, x0, x1, hB_⟩ => by go_simp <;> exact IntWalk.i64_left _))
      · exact .inr (LookOp.either (fun _ _ h => h.1) (LookOp.val 97 _ rfl rfl fun V ⟨y0, x0, x1, hB_⟩ => by go_simp <;> exact IntWalk.i64_left _))
      · exact .inr (LookOp.either (fun _ _ h => h.1) (LookOp.val 98 _ rfl rfl fun V ⟨y0, x0, x1, hB_⟩ => by go_simp <;> exact IntWalk.i64_left _))
      · exact .inr (LookOp.either (fun _ _ h => h.1) (LookOp.val 99 _ rfl rfl fun V ⟨y0, x0, x1, hB_⟩ => by go_simp <;> exact IntWalk.i64_left _))
      · left
        refine ⟨by simp, ?_⟩
        refine FlowOp.call 100 (.int .u8 (atOf pl (wrap64 (5 * k)))) 30 #[.slice Ap pl.length cp, .int .i64 (wrap64 (5 * k))] rfl rfl (fun V ⟨y0, x0, x1, hB_⟩ => by go_simp) fun V ⟨y0, x0, x1, hB_⟩ => ?_
        refine (at_any Ap cp pl (wrap64 (5 * k)) _ (Kd.C_below hCp hB_) hlp h5k).mono ?_
        rintro e w' ⟨rfl, hb⟩
        exact ⟨rfl, cell_grow y0 hb, cell_growp x0 hb, cell_growp x1 hb, hB_.trans (hb.mono hB_.size)⟩
      · left
        refine ⟨by simp, ?_⟩
        refine FlowOp.call 101 (.int .i64 (pickE l0[k].f0 l0[k].f1 (atOf pl (wrap64 (5 * k))))) 40 #[.agg #[.int .i64 (l0[k].f0), .int .i64 (l0[k].f1)], .int .u8 (atOf pl (wrap64 (5 * k)))] rfl rfl (fun V ⟨y0, x0, x1, hB_⟩ => by go_simp) fun V ⟨y0, x0, x1, hB_⟩ => ?_
        refine (pick_any _ hp1 hp2 hp3 hp4 hp5).mono ?_
        rintro e w' ⟨rfl, hb⟩
        exact ⟨rfl, cell_grow y0 hb, cell_growp x0 hb, cell_growp x1 hb, hB_.trans (hb.mono hB_.size)⟩
      · left
        refine ⟨by simp, ?_⟩
        refine FlowOp.call 102 (.agg #[.int .i64 (pickE l0[k].f0 l0[k].f1 (atOf pl (wrap64 (5 * k)))), .int .i64 (pickE l0[k].f0 l0[k].f1 (atOf pl (wrap64 (5 * k))))]) 32 #[.int .i64 (pickE l0[k].f0 l0[k].f1 (atOf pl (wrap64 (5 * k))))] rfl rfl (fun V ⟨y0, x0, x1, hB_⟩ => by go_simp) fun V ⟨y0, x0, x1, hB_⟩ => ?_
        refine (exact_any (pickE l0[k].f0 l0[k].f1 (atOf pl (wrap64 (5 * k)))) _).mono ?_
        rintro e w' ⟨rfl, hb⟩
        exact ⟨rfl, cell_grow y0 hb, cell_growp x0 hb, cell_growp x1 hb, hB_.trans (hb.mono hB_.size)⟩
    · refine ⟨rfl, fun W2 ⟨y0, x0, x1, hB_⟩ => ?_⟩
      have hgr := (Below.refl W2.heap.size W2).alloc (Nat.le_refl _) (.cells #[.int .i64 (pickE l0[k].f0 l0[k].f1 (atOf pl (wrap64 (5 * k)))), .int .i64 (pickE l0[k].f0 l0[k].f1 (atOf pl (wrap64 (5 * k))))] 29)
      exact ⟨.slice (some ⟨W2.heap.size, 0, none⟩) 1 1, W2.alloc (.cells #[.int .i64 (pickE l0[k].f0 l0[k].f1 (atOf pl (wrap64 (5 * k)))), .int .i64 (pickE l0[k].f0 l0[k].f1 (atOf pl (wrap64 (5 * k))))] 29), by go_simp, ⟨cell_grow y0 hgr, cell_growp x0 hgr, cell_growp x1 hgr, hB_.trans (hgr.mono hB_.size)⟩, W2.heap.size, rfl, World.alloc_heap_new _ _, hB_.size⟩
    · rintro _ W2 ⟨⟨y0, x0, x1, hB_⟩, Bx, rfl, hx, hle⟩
      obtain ⟨hbX, hcX, hO, hs⟩ := HX.out
      obtain ⟨i0, hi, hz0, hz1, hz2⟩ := info29'
      refine wpList_append_own W2 rfl _ _ 25 rfl (w7.heap.size + 1) 29 i0 _ 2 16 Try.underlying25 hi hz0 hz1 hz2 rfl (by decide) u15 k _ rfl (rings_set hO hB_) ⟨Bx, 0, none⟩ 1 1 [.int .i64 (pickE l0[k].f0 l0[k].f1 (atOf pl (wrap64 (5 * k)))), .int .i64 (pickE l0[k].f0 l0[k].f1 (atOf pl (wrap64 (5 * k))))] rfl rfl (two_cells hx) (by simp [Value.oneCell']) (by have := HL.out.1; unfold maxLen; omega) (by have := HL.out.1; omega) (Nat.le_trans hs hB_.size) ?_
      intro v' w8 hown' hgrow _
      have g1 := grown_keep (rings_set hO hB_) hgrow (by omega) (heap_grow hcX hB_)
      have g3 := (hbX.trans (hB_.mono hbX.size)).grown hgrow (by have := hB_.size; have := hbX.size; omega) (fun j hj => own_base (rings_set hO hB_) hj (by omega))
      rw [HN.out] at hown'
      have hown2 : w8.ownsRow (w7.heap.size + 1) 29 2 v' (k + 1) ((List.range (k + 1)).flatMap (pickC l0 pl)) := by
        rw [List.range_succ, List.flatMap_append]
        simpa using hown'
      have HX2 := hid (And.intro g3 (And.intro g1 (And.intro hown2 (Nat.le_trans (Nat.le_trans hs hB_.size) hgrow.size))))
      have rk : wrap64 ((k : Int) + 1) = ((k + 1 : Nat) : Int) := by rw [wrap64_id (by omega) (by have := HL.out.1; omega)]; simp
      clear g1 g3 hown2 hown' hgrow hx hle hbX hcX hO hs y0 x0 x1 hB_ hi hz0 hz1 hz2 h5k hp1 hp2 hp3 hp4 hp5 t0 t1 hCp hlp hC0 ht1 ht2 ht3 hIr
      go_wp2
      simp only [rk]
      clear rk
      go_roundw
      case rel => exact ⟨k + 1, by omega, rfl, HX2⟩
      case measure => simp [intOf]; omega
  · have hd : decide ((k : Int) < (l0.length : Int)) = false := decide_eq_false (by omega)
    obtain ⟨hbX, hcX, hO, hs⟩ := HX.out
    obtain rfl : k = l0.length := by omega
    have hR1 : Kd.R k29 29 wr (w7.heap.size + 1) (fun _ => True) u15 (pickTh l0 pl) := R29_of (l := List.range l0.length) (f := pickAt l0 pl) (by rw [List.length_range]; exact hO)
    obtain ⟨A3, c3, rfl, hC3, hl3⟩ := row_open hR1
    have HT := hid (And.intro hC3 hl3)
    have p0 := blkCell hIr.hb 0
    have p1 := blkCell hIr.hb 1
    have p2 := blkCell hIr.hb 2
    have q0 := blkCell hIr.ha 0
    have q1 := blkCell hIr.ha 1
    have q2 := blkCell hIr.ha 2
    have q3 := blkCell hIr.ha 3
    have q4 := blkCell hIr.ha 4
    simp at p0 p1 p2 q0 q1 q2 q3 q4
    have z0 := blkCell hcX 0
    have z1 := blkCell hcX 1
    have z2 := blkCell hcX 2
    simp at z0 z1 z2
    have HY := hid (And.intro hbX hcX)
    clear hR1 hC3 hl3 hbX hcX hO hs hIr HX
    go_wp2_with fail
    refine (Stress_any A2 c2 (realOf l pl) fl tg A3 c3 (pickTh l0 pl) a1 a2 a3 a4 _ (Kd.C_below HC2.out.1 HY.out.1) HT.out.1 (by have := HL.out.1; rw [pickTh_len]; omega) (by have := HL.out.2.1; rw [real_len]; omega)).mono ?_
    rintro e w8 ⟨x4, rfl, hv4, hb⟩
    rw [(all_good (inside_asked HZ.out HP.out.2.2)).1]
    obtain ⟨A4, c4, rfl, hC4, hl4⟩ := row_open hv4
    have HY8 := hid (And.intro (HY.out.1.trans (hb.mono HY.out.1.size)) (heap_grow HY.out.2 hb))
    have HT8 := hid (And.intro (Kd.C_below HT.out.1 hb) HT.out.2)
    have HV4 := hid (And.intro hC4 hl4)
    have hIr := HI7.out.grow HY8.out.1
    have hcX := HY8.out.2
    clear hb hv4 hC4 hl4 HY HT p0 p1 p2 q0 q1 q2 q3 q4 z0 z1 z2
    have p0 := blkCell hIr.hb 0
    have p1 := blkCell hIr.hb 1
    have p2 := blkCell hIr.hb 2
    have q0 := blkCell hIr.ha 0
    have q1 := blkCell hIr.ha 1
    have q2 := blkCell hIr.ha 2
    have q3 := blkCell hIr.ha 3
    have q4 := blkCell hIr.ha 4
    simp at p0 p1 p2 q0 q1 q2 q3 q4
    have z0 := blkCell hcX 0
    have z1 := blkCell hcX 1
    have z2 := blkCell hcX 2
    simp at z0 z1 z2
    clear hIr hcX
    go_wp2_with fail
    refine (Holds_any A2 c2 (realOf l pl) fl tg A3 c3 (pickTh l0 pl) a1 a2 a3 a4 _ (Kd.C_below HC2.out.1 HY8.out.1) HT8.out.1 (by have := HL.out.1; rw [pickTh_len]; omega) (by have := HL.out.2.1; rw [real_len]; omega)).mono ?_
    rintro e w9 ⟨rfl, hb⟩
    rw [(all_good (inside_asked HZ.out HP.out.2.2)).2.1]
    have HY9 := hid (And.intro (HY8.out.1.trans (hb.mono HY8.out.1.size)) (heap_grow HY8.out.2 hb))
    have HT9 := hid (And.intro (Kd.C_below HT8.out.1 hb) HT8.out.2)
    have HV5 := hid (And.intro (Kd.C_below HV4.out.1 hb) HV4.out.2)
    have hIr := HI7.out.grow HY9.out.1
    have hcX := HY9.out.2
    clear hb HY8 HT8 HV4 p0 p1 p2 q0 q1 q2 q3 q4 z0 z1 z2
    have p0 := blkCell hIr.hb 0
    have p1 := blkCell hIr.hb 1
    have p2 := blkCell hIr.hb 2
    have q0 := blkCell hIr.ha 0
    have q1 := blkCell hIr.ha 1
    have q2 := blkCell hIr.ha 2
    have q3 := blkCell hIr.ha 3
    have q4 := blkCell hIr.ha 4
    simp at p0 p1 p2 q0 q1 q2 q3 q4
    have z0 := blkCell hcX 0
    have z1 := blkCell hcX 1
    have z2 := blkCell hcX 2
    simp at z0 z1 z2
    clear hIr hcX
    go_wp2_with fail
    refine (Burst_any A2 c2 (realOf l pl) fl tg A3 c3 (pickTh l0 pl) a1 a2 a3 a4 _ (Kd.C_below HC2.out.1 HY9.out.1) HT9.out.1 (by have := HL.out.1; rw [pickTh_len]; omega) (by have := HL.out.2.1; rw [real_len]; omega)).mono ?_
    rintro e w10 ⟨rfl, hb⟩
    rw [(all_good (inside_asked HZ.out HP.out.2.2)).2.2]
    have hend := inside_end HZ.out HP.out.2.2
    obtain ⟨Ki, hKi⟩ := inside_f HZ.out HP.out.2.2
    obtain ⟨hsl, hh1, hh2, hu1, hu2⟩ := HE.out
    rw [hsl] at hKi
    rw [hh1, hh2, hu1, hu2] at hend
    generalize (stressRes (realOf l pl) fl tg (pickTh l0 pl) a1 a2 a3 a4).1 = sl2 at *
    generalize (holdsRes (realOf l pl) fl tg (pickTh l0 pl) a1 a2 a3 a4).1 = j1 at *
    generalize (holdsRes (realOf l pl) fl tg (pickTh l0 pl) a1 a2 a3 a4).2.1 = j2 at *
    generalize (burstRes (realOf l pl) fl tg (pickTh l0 pl) a1 a2 a3 a4).1 = v1 at *
    generalize (burstRes (realOf l pl) fl tg (pickTh l0 pl) a1 a2 a3 a4).2.1 = v2 at *
    have hbY := HY9.out.1.trans (hb.mono HY9.out.1.size)
    have hI10 := HI7.out.grow hbY
    have hn7 := heap_grow HN7.out hbY
    have gu := cell_lt (blkCell hn7 0)
    have hal := (Below.refl w10.heap.size w10).alloc (Nat.le_refl _) (.cells #[.int .i64 v1, .int .i64 v2] 29)
    have hD1 := Kd.C_below (Kd.C_below HV5.out.1 hb) hal
    have hD2 := Kd.C_below (Kd.C_below HV7.out.1 hbY) hal
    have HD := hid (And.intro hD1 (And.intro HV5.out.2 (And.intro hD2 HV7.out.2)))
    have HB10 := hid (hI10.be.trans (hal.mono hI10.be.size))
    have HN10 := hid (And.intro (heap_grow hn7 hal) (World.alloc_heap_new w10 (.cells #[.int .i64 v1, .int .i64 v2] 29)))
    have HKi := hid hKi
    obtain ⟨e1, e2, e3, e4, e5, e6, e7⟩ := hend
    have d4 : decide (u1 ≤ v1) = true := decide_eq_true e4
    have d5 : decide (v2 ≤ u2) = true := decide_eq_true e5
    have d6 : decide (u1 < u2) = true := decide_eq_true e6
    have d7 : decide (v1 < v2) = true := decide_eq_true e7
    clear hb HY9 HT9 HV5 p0 p1 p2 q0 q1 q2 q3 q4 z0 z1 z2 hKi hsl hh1 hh2 hu1 hu2 HE hbY hI10 hn7 hal hD1 hD2 e4 e5 e6 e7
    have key : ∀ (x y x' y' : Bool), (x = true → x' = true) → (y = true → y' = true) → (x = true → y = false) → (x = true ∧ x' = true ∧ y = false) ∨ (x = false ∧ y = true ∧ y' = true) ∨ (x = false ∧ y = false) := by decide
    rcases key h1 h2 j1 j2 e1 e2 e3 with ⟨rfl, rfl, rfl⟩ | ⟨rfl, rfl, rfl⟩ | ⟨rfl, rfl⟩
    all_goals
      clear key e1 e2 e3
      go_wp2_with fail
      refine (culletlaw05_inside.calls Ki A4 c4 sl2 A1 c1 sl true _ HD.out.1 HD.out.2.1 HD.out.2.2.1 HD.out.2.2.2 HKi.out).mono ?_
      rintro e w11 ⟨rfl, hdr⟩
      have hb := hdr.below
      have y0 := blkCell (heap_grow HN10.out.1 hb) 0
      have y1 := blkCell (heap_grow HN10.out.1 hb) 1
      have y2 := blkCell (heap_grow HN10.out.2 hb) 0
      have y3 := blkCell (heap_grow HN10.out.2 hb) 1
      simp at y0 y1 y2 y3
      have HB11 := hid (HB10.out.trans (hb.mono HB10.out.size))
      clear hdr hb HN10 HD
      go_wp2_with (first | (go_at_call 14; refine (lives_any _).mono ?_; rintro e w12 ⟨rfl, hb⟩))
      exact bodyPost_ret (v := .bool true) (by simp [results, Try.results9, go_sem]) rfl ⟨rfl, HB11.out.trans (hb.mono HB11.out.size)⟩
end Go.Proofs.Ythoofldinnfpiaa
