import Derived.Test.YthoofldinnfpiaaGW
import Derived.Test.YthoofldinnfpiaaRQ
import Derived.Test.YthoofldinnfpiaaLP
namespace Go.Proofs.Ythoofldinnfpiaa
open Go.RowKit Go.Proofs.YthoofldinnfpiaaW.PrintWords Go.Proofs.YthoofldinnfpiaaW.PrintLast Go.Proofs.YthoofldinnfpiaaW.PrintMore
open Q Go.Shelf
attribute [local go_sem] Oper.semAt_some wide_depth wide_fn
set_option linter.unusedVariables false
set_option linter.unusedSimpArgs false
theorem size33 : (Try.prog.info? 33).map (·.size) = some 21 := by kernel_rfl
theorem loadVar_ne (t : TypeId) (a : Addr) (h : ¬ t = 33) : loadVar t a = (do if ← isAgg t then pure (.agg (← loadCells a (← sizeOf t))) else load a) := rfl
attribute [-go_sem] loadVar
attribute [local go_sem] loadVar_ne
theorem int_open {w : World} {base : Nat} {ok : Nat → Prop} {v : Value} {xs : List Int} (h : Kd.R (Kd.int .i64) 3 w base ok v xs) : ∃ A c, v = .slice A xs.length c ∧ Kd.C (Kd.int .i64) w A xs.length xs ∧ xs.length ≤ c := by
  obtain ⟨A, c, rfl⟩ := Kd.R_slice h
  exact ⟨A, c, rfl, (Kd.R_reads' h).2.2, (Kd.R_reads' h).2.1⟩
theorem needed_len (l : List S82) (fl tg p f s o : Int) : (neededRes l fl tg p f s o).1.length ≤ l.length := by
  unfold neededRes
  split
  · rw [need_len]; exact Nat.le_refl _
  · simp
set_option maxRecDepth 100000 in
set_option maxHeartbeats 8000000 in
set_option pp.deepTerms true in
set_option pp.maxSteps 1000000 in
theorem strengthNeeds_calls (A : Option Addr) (c : Nat) (l : List S82) (fl tg : Int) (A0 : Option Addr) (c0 : Nat) (l0 : List S29) (a1 a2 a3 a4 a5 a6 a7 a8 : Int) (A9 : Option Addr) (c9 : Nat) (l9 : List Int) (a10 a11 a12 a13 a14 a15 a16 a17 a18 : Int) (A19 : Option Addr) (c19 : Nat) (l19 : List Int) (A20 : Option Addr) (c20 : Nat) (l20 : List S118) (W : World)
    (hC : Kd.C k82 W A l.length l) (hl : l.length ≤ c) (hC0 : Kd.C k29 W A0 l0.length l0) (hl0 : l0.length ≤ c0) (hC9 : Kd.C (Kd.int .i64) W A9 l9.length l9) (hl9 : l9.length ≤ c9) (hC19 : Kd.C (Kd.int .i64) W A19 l19.length l19) (hl19 : l19.length ≤ c19) (hC20 : Kd.C k118 W A20 l20.length l20) (hl20 : l20.length ≤ c20)
    (wl : ∀ y ∈ l, W82 y) (w1 : W64 fl) (w2 : W64 tg)
    (wf : (∀ y ∈ l0, W29 y) ∧ (W64 a1 ∧ W64 a2 ∧ W64 a3 ∧ W64 a4) ∧ W64 a5 ∧ W64 a6 ∧ W64 a7 ∧ W64 a8 ∧ (∀ y ∈ l9, W64 y) ∧ W64 a10 ∧ W64 a11 ∧ W64 a12 ∧ W64 a13 ∧ W64 a14 ∧ W64 a15 ∧ W64 a16 ∧ W64 a17 ∧ W64 a18 ∧ (∀ y ∈ l19, W64 y) ∧ ∀ y ∈ l20, W118 y) :
    Calls Try.prog 11 #[.agg #[.slice A l.length c, .int .i64 fl, .int .i64 tg], .agg #[.slice A0 l0.length c0, .int .i64 a1, .int .i64 a2, .int .i64 a3, .int .i64 a4, .int .i64 a5, .int .i64 a6, .int .i64 a7, .int .i64 a8, .slice A9 l9.length c9, .int .i64 a10, .int .i64 a11, .int .i64 a12, .int .i64 a13, .int .i64 a14, .int .i64 a15, .int .i64 a16, .int .i64 a17, .int .i64 a18, .slice A19 l19.length c19, .slice A20 l20.length c20]] W fun e w' => e = .returned (.bool true) ∧ Below W.heap.size W w' := by
  have HB := Below.refl W.heap.size W
  obtain ⟨b, ⟨K, hK⟩, hw⟩ := wide05 l0 a1 a2 a3 a4 a5 a6 a7 a8 l9 a10 a11 a12 a13 a14 a15 a16 a17 a18 l19 l20
  have HW := hid (hK K (Nat.le_refl _))
  have HC := hid (And.intro hC (And.intro hl (And.intro hC0 (And.intro hl0 (And.intro hC9 (And.intro hl9 (And.intro hC19 (And.intro hl19 (And.intro hC20 hl20)))))))))
  have hu24 := Try.underlying24
  have hu33 := Try.underlying33
  have hu27 := Try.underlying27
  have hu29 := Try.underlying29
  clear hK hC hl hC0 hl0 hC9 hl9 hC19 hl19 hC20 hl20 wl w1 w2 wf
  go_enter Try.func11, Try.ntmps11
  go_wp2_with fail
  obtain ⟨hC, hl, hC0, hl0, hC9, hl9, hC19, hl19, hC20, hl20⟩ := HC.out
  have hbel := (HB.alloc (Nat.le_refl _) (.cells #[.slice A l.length c, .int .i64 fl, .int .i64 tg] 24)).alloc (by simp) (.cells #[.slice A0 l0.length c0, .int .i64 a1, .int .i64 a2, .int .i64 a3, .int .i64 a4, .int .i64 a5, .int .i64 a6, .int .i64 a7, .int .i64 a8, .slice A9 l9.length c9, .int .i64 a10, .int .i64 a11, .int .i64 a12, .int .i64 a13, .int .i64 a14, .int .i64 a15, .int .i64 a16, .int .i64 a17, .int .i64 a18, .slice A19 l19.length c19, .slice A20 l20.length c20] 33)
  have e0 := World.alloc_heap_new W (.cells #[.slice A l.length c, .int .i64 fl, .int .i64 tg] 24)
  have e1 := World.alloc_heap_new (W.alloc (.cells #[.slice A l.length c, .int .i64 fl, .int .i64 tg] 24)) (.cells #[.slice A0 l0.length c0, .int .i64 a1, .int .i64 a2, .int .i64 a3, .int .i64 a4, .int .i64 a5, .int .i64 a6, .int .i64 a7, .int .i64 a8, .slice A9 l9.length c9, .int .i64 a10, .int .i64 a11, .int .i64 a12, .int .i64 a13, .int .i64 a14, .int .i64 a15, .int .i64 a16, .int .i64 a17, .int .i64 a18, .slice A19 l19.length c19, .slice A20 l20.length c20] 33)
  have e0 := alloc_old (o' := .cells #[.slice A0 l0.length c0, .int .i64 a1, .int .i64 a2, .int .i64 a3, .int .i64 a4, .int .i64 a5, .int .i64 a6, .int .i64 a7, .int .i64 a8, .slice A9 l9.length c9, .int .i64 a10, .int .i64 a11, .int .i64 a12, .int .i64 a13, .int .i64 a14, .int .i64 a15, .int .i64 a16, .int .i64 a17, .int .i64 a18, .slice A19 l19.length c19, .slice A20 l20.length c20] 33) e0
  rw [World.size_alloc] at e1
  have hI : LawB W A c l fl tg A0 c0 l0 a1 a2 a3 a4 a5 a6 a7 a8 A9 c9 l9 a10 a11 a12 a13 a14 a15 a16 a17 a18 A19 c19 l19 A20 c20 l20 ((W.alloc (.cells #[.slice A l.length c, .int .i64 fl, .int .i64 tg] 24)).alloc (.cells #[.slice A0 l0.length c0, .int .i64 a1, .int .i64 a2, .int .i64 a3, .int .i64 a4, .int .i64 a5, .int .i64 a6, .int .i64 a7, .int .i64 a8, .slice A9 l9.length c9, .int .i64 a10, .int .i64 a11, .int .i64 a12, .int .i64 a13, .int .i64 a14, .int .i64 a15, .int .i64 a16, .int .i64 a17, .int .i64 a18, .slice A19 l19.length c19, .slice A20 l20.length c20] 33)) := ⟨e0, e1, hbel⟩
  generalize ((W.alloc (.cells #[.slice A l.length c, .int .i64 fl, .int .i64 tg] 24)).alloc (.cells #[.slice A0 l0.length c0, .int .i64 a1, .int .i64 a2, .int .i64 a3, .int .i64 a4, .int .i64 a5, .int .i64 a6, .int .i64 a7, .int .i64 a8, .slice A9 l9.length c9, .int .i64 a10, .int .i64 a11, .int .i64 a12, .int .i64 a13, .int .i64 a14, .int .i64 a15, .int .i64 a16, .int .i64 a17, .int .i64 a18, .slice A19 l19.length c19, .slice A20 l20.length c20] 33)) = W2 at *
  refine (great_any A c l fl tg _ (Kd.C_below hC hI.be) hl).mono ?_
  rintro e w1 ⟨rfl, hb⟩
  have HI1 := hid (hI.grow hb)
  clear hI hb e0 e1 hbel hC hl hC0 hl0 hC9 hl9 hC19 hl19 hC20 hl20 HB
  cases hg : decide ((l.length : Int) > 40) with
  | true =>
    go_wp2_with (first | (go_at_call 14; refine (lives_any _).mono ?_; rintro e w9 ⟨rfl, hb⟩))
    refine bodyPost_ret (v := .bool true) (by simp [results, Try.results11, go_sem]) rfl ⟨rfl, HI1.out.be.trans (hb.mono HI1.out.be.size)⟩
  | false =>
  have HG := hid hg
  clear hg
  have hld := run_loadVar_row (P := Try.prog) w1 (W.heap.size + 1) 33 33 #[.slice A0 l0.length c0, .int .i64 a1, .int .i64 a2, .int .i64 a3, .int .i64 a4, .int .i64 a5, .int .i64 a6, .int .i64 a7, .int .i64 a8, .slice A9 l9.length c9, .int .i64 a10, .int .i64 a11, .int .i64 a12, .int .i64 a13, .int .i64 a14, .int .i64 a15, .int .i64 a16, .int .i64 a17, .int .i64 a18, .slice A19 l19.length c19, .slice A20 l20.length c20] (0, 0) _ HI1.out.ha Try.underlying33 rfl size33
  go_wp2_with fail
  obtain ⟨hC, hl, hC0, hl0, hC9, hl9, hC19, hl19, hC20, hl20⟩ := HC.out
  have hbe := HI1.out.be
  refine (culletlaw05_Wide.calls K A0 c0 l0 a1 a2 a3 a4 a5 a6 a7 a8 A9 c9 l9 a10 a11 a12 a13 a14 a15 a16 a17 a18 A19 c19 l19 A20 c20 l20 b _ (Kd.C_below hC0 hbe) hl0 (Kd.C_below hC9 hbe) hl9 (Kd.C_below hC19 hbe) hl19 (Kd.C_below hC20 hbe) hl20 HW.out).mono ?_
  rintro e w3 ⟨rfl, hb⟩
  have HI3 := hid (HI1.out.grow hb)
  clear hb hbe hC hl hC0 hl0 hC9 hl9 hC19 hl19 hC20 hl20 hld HI1
  cases b with
  | true =>
    go_wp2_with (first | (go_at_call 14; refine (lives_any _).mono ?_; rintro e w9 ⟨rfl, hb⟩))
    refine bodyPost_ret (v := .bool true) (by simp [results, Try.results11, go_sem]) rfl ⟨rfl, HI3.out.be.trans (hb.mono HI3.out.be.size)⟩
  | false =>
  have p0 := blkCell HI3.out.hb 0
  have p1 := blkCell HI3.out.hb 1
  have p2 := blkCell HI3.out.hb 2
  have q0 := blkCell HI3.out.ha 0
  have q1 := blkCell HI3.out.ha 1
  have q2 := blkCell HI3.out.ha 2
  have q3 := blkCell HI3.out.ha 3
  have q4 := blkCell HI3.out.ha 4
  have q9 := blkCell HI3.out.ha 9
  have q10 := blkCell HI3.out.ha 10
  simp at p0 p1 p2 q0 q1 q2 q3 q4 q9 q10
  have hth := (hw rfl).1
  have hth9 := (hw rfl).2
  have hll : l.length ≤ 40 := by have := HG.out; simp at this; omega
  clear hw
  have HL := hid (And.intro hth (And.intro hll hth9))
  clear hth hll hth9
  go_wp2_with fail
  obtain ⟨hC, hl, hC0, hl0, hC9, hl9, hC19, hl19, hC20, hl20⟩ := HC.out
  refine (Needed_any A c l fl tg a1 a2 a3 a4 _ (Kd.C_below hC HI3.out.be)).mono ?_
  rintro e w4 ⟨v, rfl, hv, hb⟩
  have HI4 := hid (HI3.out.grow hb)
  obtain ⟨A1, c1, rfl, hC1, hl1⟩ := int_open hv
  have HV1 := hid (And.intro hC1 hl1)
  clear hb hC hl hC0 hl0 hC9 hl9 hC19 hl19 hC20 hl20 p0 p1 p2 q0 q1 q2 q3 q4 q9 q10 HI3 hv hC1 hl1
  have p0 := blkCell HI4.out.hb 0
  have p1 := blkCell HI4.out.hb 1
  have p2 := blkCell HI4.out.hb 2
  have q0 := blkCell HI4.out.ha 0
  have q1 := blkCell HI4.out.ha 1
  have q2 := blkCell HI4.out.ha 2
  have q3 := blkCell HI4.out.ha 3
  have q4 := blkCell HI4.out.ha 4
  have q9 := blkCell HI4.out.ha 9
  have q10 := blkCell HI4.out.ha 10
  simp at p0 p1 p2 q0 q1 q2 q3 q4 q9 q10
  go_wp2_with fail
  obtain ⟨hC, hl, hC0, hl0, hC9, hl9, hC19, hl19, hC20, hl20⟩ := HC.out
  refine (Needed43_any A c l fl tg a1 a2 a3 a4 _ (Kd.C_below hC HI4.out.be) hl).mono ?_
  rintro e w5 ⟨v, rfl, hv, hb⟩
  have HI5 := hid (HI4.out.grow hb)
  obtain ⟨A2, c2, rfl, hC2, hl2⟩ := int_open hv
  have HV2 := hid (And.intro (Kd.C_below HV1.out.1 hb) (And.intro HV1.out.2 (And.intro hC2 hl2)))
  have hnl := needed_len l fl tg a1 a2 a3 a4
  have hln : (neededRes l fl tg a1 a2 a3 a4).1.length ≤ 100000 := by have := HL.out.2.1; omega
  have HSF := hid (sameI_f _ hln)
  obtain ⟨nl, hn1⟩ : ∃ x, (neededRes l fl tg a1 a2 a3 a4).1 = x := ⟨_, rfl⟩
  obtain ⟨ne, hn2⟩ : ∃ x, (neededRes l fl tg a1 a2 a3 a4).2 = x := ⟨_, rfl⟩
  rw [hn1] at HV2 HSF
  rw [hn1, hn2]
  clear hb hC hl hC0 hl0 hC9 hl9 hC19 hl19 hC20 hl20 p0 p1 p2 q0 q1 q2 q3 q4 q9 q10 HI4 hv hC2 hl2 HV1 hnl hln hn1 hn2
  go_wp2_with fail
  refine (culletlaw01_SameInts.calls _ A1 c1 nl A2 c2 nl true _ HV2.out.1 HV2.out.2.1 HV2.out.2.2.1 HV2.out.2.2.2 HSF.out).mono ?_
  rintro e w6 ⟨rfl, hd⟩
  have HI6 := hid (HI5.out.grow hd.below)
  clear hd HI5 HV2 HSF
  have p0 := blkCell HI6.out.hb 0
  have p1 := blkCell HI6.out.hb 1
  have p2 := blkCell HI6.out.hb 2
  have q0 := blkCell HI6.out.ha 0
  have q1 := blkCell HI6.out.ha 1
  have q2 := blkCell HI6.out.ha 2
  have q3 := blkCell HI6.out.ha 3
  have q4 := blkCell HI6.out.ha 4
  have q9 := blkCell HI6.out.ha 9
  have q10 := blkCell HI6.out.ha 10
  simp at p0 p1 p2 q0 q1 q2 q3 q4 q9 q10
  go_wp2_with fail
  obtain ⟨hC, hl, hC0, hl0, hC9, hl9, hC19, hl19, hC20, hl20⟩ := HC.out
  refine (Passes_any A c l fl tg a1 a2 a3 a4 A9 c9 l9 a10 _ (Kd.C_below hC HI6.out.be) (Kd.C_below hC9 HI6.out.be) (by have := HL.out.2.2; omega)).mono ?_
  rintro e w7 ⟨rfl, hb⟩
  have HI7 := hid (HI6.out.grow hb)
  clear hb hC hl hC0 hl0 hC9 hl9 hC19 hl19 hC20 hl20 p0 p1 p2 q0 q1 q2 q3 q4 q9 q10 HI6
  have p0 := blkCell HI7.out.hb 0
  have p1 := blkCell HI7.out.hb 1
  have p2 := blkCell HI7.out.hb 2
  have q0 := blkCell HI7.out.ha 0
  have q1 := blkCell HI7.out.ha 1
  have q2 := blkCell HI7.out.ha 2
  have q3 := blkCell HI7.out.ha 3
  have q4 := blkCell HI7.out.ha 4
  have q9 := blkCell HI7.out.ha 9
  have q10 := blkCell HI7.out.ha 10
  simp at p0 p1 p2 q0 q1 q2 q3 q4 q9 q10
  go_wp2_with fail
  obtain ⟨hC, hl, hC0, hl0, hC9, hl9, hC19, hl19, hC20, hl20⟩ := HC.out
  refine (Passes45_any A c l fl tg a1 a2 a3 a4 A9 c9 l9 a10 _ (Kd.C_below hC HI7.out.be) hl (Kd.C_below hC9 HI7.out.be) (by have := HL.out.2.2; omega)).mono ?_
  rintro e w8 ⟨rfl, hb⟩
  have HI8 := hid (HI7.out.grow hb)
  generalize (passesRes l fl tg a1 a2 a3 a4 l9 a10).1 = y1 at *
  generalize (passesRes l fl tg a1 a2 a3 a4 l9 a10).2 = y2 at *
  clear hb hC hl hC0 hl0 hC9 hl9 hC19 hl19 hC20 hl20 p0 p1 p2 q0 q1 q2 q3 q4 q9 q10 HI7
  have s0 := blkCell HI8.out.hb 0
  have s1 := blkCell HI8.out.hb 1
  have s2 := blkCell HI8.out.hb 2
  have q0 := blkCell HI8.out.ha 0
  have q1 := blkCell HI8.out.ha 1
  have q2 := blkCell HI8.out.ha 2
  have q3 := blkCell HI8.out.ha 3
  have q4 := blkCell HI8.out.ha 4
  have q9 := blkCell HI8.out.ha 9
  have q10 := blkCell HI8.out.ha 10
  simp at s0 s1 s2 q0 q1 q2 q3 q4 q9 q10
  go_wp2_with fail
  obtain ⟨hC, hl, hC0, hl0, hC9, hl9, hC19, hl19, hC20, hl20⟩ := HC.out
  refine (Lightest_any A c l fl tg a1 a2 a3 a4 _ (Kd.C_below hC HI8.out.be)).mono ?_
  rintro e w9 ⟨rfl, hb⟩
  have HI9 := hid (HI8.out.grow hb)
  clear hb hC hl hC0 hl0 hC9 hl9 hC19 hl19 hC20 hl20 s0 s1 s2 q0 q1 q2 q3 q4 q9 q10 HI8
  have s0 := blkCell HI9.out.hb 0
  have s1 := blkCell HI9.out.hb 1
  have s2 := blkCell HI9.out.hb 2
  have q0 := blkCell HI9.out.ha 0
  have q1 := blkCell HI9.out.ha 1
  have q2 := blkCell HI9.out.ha 2
  have q3 := blkCell HI9.out.ha 3
  have q4 := blkCell HI9.out.ha 4
  have q9 := blkCell HI9.out.ha 9
  have q10 := blkCell HI9.out.ha 10
  simp at s0 s1 s2 q0 q1 q2 q3 q4 q9 q10
  go_wp2_with fail
  obtain ⟨hC, hl, hC0, hl0, hC9, hl9, hC19, hl19, hC20, hl20⟩ := HC.out
  refine (Lightest47_any A c l fl tg a1 a2 a3 a4 _ (Kd.C_below hC HI9.out.be) hl).mono ?_
  rintro e w10 ⟨rfl, hb⟩
  have HI10 := hid (HI9.out.grow hb)
  generalize (lightestRes l fl tg a1 a2 a3 a4).1 = g1 at *
  generalize (lightestRes l fl tg a1 a2 a3 a4).2 = g2 at *
  clear hb hC hl hC0 hl0 hC9 hl9 hC19 hl19 hC20 hl20 s0 s1 s2 q0 q1 q2 q3 q4 q9 q10 HI9
  cases y1
  all_goals
    go_wp2_with (first | (go_at_call 14; refine (lives_any _).mono ?_; rintro e w11 ⟨rfl, hb⟩))
    refine bodyPost_ret (v := .bool true) (by simp [results, Try.results11, go_sem]) rfl ⟨rfl, HI10.out.be.trans (hb.mono HI10.out.be.size)⟩
end Go.Proofs.Ythoofldinnfpiaa
