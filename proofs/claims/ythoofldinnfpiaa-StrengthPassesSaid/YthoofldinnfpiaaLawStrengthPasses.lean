import Derived.Test.YthoofldinnfpiaaLW
import Derived.Test.YthoofldinnfpiaaPN
import Derived.Test.YthoofldinnfpiaaLP
import Derived.Test.YthoofldinnfpiaaFL
namespace Go.Proofs.Ythoofldinnfpiaa
open Go.RowKit Go.Proofs.YthoofldinnfpiaaW.PrintWords Go.Proofs.YthoofldinnfpiaaW.PrintLast Go.Proofs.YthoofldinnfpiaaW.PrintMore
open Q Go.Shelf
attribute [local go_sem] Oper.semAt_some wide_depth wide_fn
set_option linter.unusedVariables false
theorem size33 : (Try.prog.info? 33).map (·.size) = some 21 := by kernel_rfl
theorem loadVar_ne (t : TypeId) (a : Addr) (h : ¬ t = 33) : loadVar t a = (do if ← isAgg t then pure (.agg (← loadCells a (← sizeOf t))) else load a) := rfl
attribute [-go_sem] loadVar
attribute [local go_sem] loadVar_ne
attribute [local go_sem] max2_int min2_int max_two min_two
set_option maxRecDepth 100000 in
set_option maxHeartbeats 8000000 in
set_option pp.deepTerms true in
set_option pp.maxSteps 1000000 in
theorem strengthPasses_calls (A : Option Addr) (c : Nat) (l : List S82) (fl tg : Int) (A0 : Option Addr) (c0 : Nat) (l0 : List S29) (a1 a2 a3 a4 a5 a6 a7 a8 : Int) (A9 : Option Addr) (c9 : Nat) (l9 : List Int) (a10 a11 a12 a13 a14 a15 a16 a17 a18 : Int) (A19 : Option Addr) (c19 : Nat) (l19 : List Int) (A20 : Option Addr) (c20 : Nat) (l20 : List S118) (W : World)
    (hC : Kd.C k82 W A l.length l) (hl : l.length ≤ c) (hC0 : Kd.C k29 W A0 l0.length l0) (hl0 : l0.length ≤ c0) (hC9 : Kd.C (Kd.int .i64) W A9 l9.length l9) (hl9 : l9.length ≤ c9) (hC19 : Kd.C (Kd.int .i64) W A19 l19.length l19) (hl19 : l19.length ≤ c19) (hC20 : Kd.C k118 W A20 l20.length l20) (hl20 : l20.length ≤ c20)
    (wl : ∀ y ∈ l, W82 y) (w1 : W64 fl) (w2 : W64 tg)
    (wf : (∀ y ∈ l0, W29 y) ∧ (W64 a1 ∧ W64 a2 ∧ W64 a3 ∧ W64 a4) ∧ W64 a5 ∧ W64 a6 ∧ W64 a7 ∧ W64 a8 ∧ (∀ y ∈ l9, W64 y) ∧ W64 a10 ∧ W64 a11 ∧ W64 a12 ∧ W64 a13 ∧ W64 a14 ∧ W64 a15 ∧ W64 a16 ∧ W64 a17 ∧ W64 a18 ∧ (∀ y ∈ l19, W64 y) ∧ ∀ y ∈ l20, W118 y) :
    Calls Try.prog 10 #[.agg #[.slice A l.length c, .int .i64 fl, .int .i64 tg], .agg #[.slice A0 l0.length c0, .int .i64 a1, .int .i64 a2, .int .i64 a3, .int .i64 a4, .int .i64 a5, .int .i64 a6, .int .i64 a7, .int .i64 a8, .slice A9 l9.length c9, .int .i64 a10, .int .i64 a11, .int .i64 a12, .int .i64 a13, .int .i64 a14, .int .i64 a15, .int .i64 a16, .int .i64 a17, .int .i64 a18, .slice A19 l19.length c19, .slice A20 l20.length c20]] W fun e w' => e = .returned (.bool true) ∧ Below W.heap.size W w' := by
  have HB := Below.refl W.heap.size W
  obtain ⟨b, ⟨K, hK⟩, hw⟩ := wide05 l0 a1 a2 a3 a4 a5 a6 a7 a8 l9 a10 a11 a12 a13 a14 a15 a16 a17 a18 l19 l20
  have HW := hid (hK K (Nat.le_refl _))
  have HC := hid (And.intro hC (And.intro hl (And.intro hC0 (And.intro hl0 (And.intro hC9 (And.intro hl9 (And.intro hC19 (And.intro hl19 (And.intro hC20 hl20)))))))))
  have hu24 := Try.underlying24
  have hu33 := Try.underlying33
  have hu27 := Try.underlying27
  have hu29 := Try.underlying29
  clear hK hC hl hC0 hl0 hC9 hl9 hC19 hl19 hC20 hl20 wl w1 w2 wf
  go_enter Try.func10, Try.ntmps10
  go_wp2_with fail
  obtain ⟨hC, hl, hC0, hl0, hC9, hl9, hC19, hl19, hC20, hl20⟩ := HC.out
  have hbel := (HB.alloc (Nat.le_refl _) (.cells #[.slice A l.length c, .int .i64 fl, .int .i64 tg] 24)).alloc (by simp) (.cells #[.slice A0 l0.length c0, .int .i64 a1, .int .i64 a2, .int .i64 a3, .int .i64 a4, .int .i64 a5, .int .i64 a6, .int .i64 a7, .int .i64 a8, .slice A9 l9.length c9, .int .i64 a10, .int .i64 a11, .int .i64 a12, .int .i64 a13, .int .i64 a14, .int .i64 a15, .int .i64 a16, .int .i64 a17, .int .i64 a18, .slice A19 l19.length c19, .slice A20 l20.length c20] 33)
  have e0 := World.alloc_heap_new W (.cells #[.slice A l.length c, .int .i64 fl, .int .i64 tg] 24)
  have e1 := World.alloc_heap_new (W.alloc (.cells #[.slice A l.length c, .int .i64 fl, .int .i64 tg] 24)) (.cells #[.slice A0 l0.length c0, .int .i64 a1, .int .i64 a2, .int .i64 a3, .int .i64 a4, .int .i64 a5, .int .i64 a6, .int .i64 a7, .int .i64 a8, .slice A9 l9.length c9, .int .i64 a10, .int .i64 a11, .int .i64 a12, .int .i64 a13, .int .i64 a14, .int .i64 a15, .int .i64 a16, .int .i64 a17, .int .i64 a18, .slice A19 l19.length c19, .slice A20 l20.length c20] 33)
  have e0 := alloc_old (o' := .cells #[.slice A0 l0.length c0, .int .i64 a1, .int .i64 a2, .int .i64 a3, .int .i64 a4, .int .i64 a5, .int .i64 a6, .int .i64 a7, .int .i64 a8, .slice A9 l9.length c9, .int .i64 a10, .int .i64 a11, .int .i64 a12, .int .i64 a13, .int .i64 a14, .int .i64 a15, .int .i64 a16, .int .i64 a17, .int .i64 a18, .slice A19 l19.length c19, .slice A20 l20.length c20] 33) e0
  rw [World.size_alloc] at e1
  have hI : LawB W A c l fl tg A0 c0 l0 a1 a2 a3 a4 a5 a6 a7 a8 A9 c9 l9 a10 a11 a12 a13 a14 a15 a16 a17 a18 A19 c19 l19 A20 c20 l20 ((W.alloc (.cells #[.slice A l.length c, .int .i64 fl, .int .i64 tg] 24)).alloc (.cells #[.slice A0 l0.length c0, .int .i64 a1, .int .i64 a2, .int .i64 a3, .int .i64 a4, .int .i64 a5, .int .i64 a6, .int .i64 a7, .int .i64 a8, .slice A9 l9.length c9, .int .i64 a10, .int .i64 a11, .int .i64 a12, .int .i64 a13, .int .i64 a14, .int .i64 a15, .int .i64 a16, .int .i64 a17, .int .i64 a18, .slice A19 l19.length c19, .slice A20 l20.length c20] 33)) := ⟨e0, e1, hbel⟩
  generalize ((W.alloc (.cells #[.slice A l.length c, .int .i64 fl, .int .i64 tg] 24)).alloc (.cells #[.slice A0 l0.length c0, .int .i64 a1, .int .i64 a2, .int .i64 a3, .int .i64 a4, .int .i64 a5, .int .i64 a6, .int .i64 a7, .int .i64 a8, .slice A9 l9.length c9, .int .i64 a10, .int .i64 a11, .int .i64 a12, .int .i64 a13, .int .i64 a14, .int .i64 a15, .int .i64 a16, .int .i64 a17, .int .i64 a18, .slice A19 l19.length c19, .slice A20 l20.length c20] 33)) = W2 at *
  refine (great_any A c l fl tg _ (Kd.C_below hC hI.be) hl).mono ?_
  rintro e w1 ⟨rfl, hb⟩
  have HI1 := hid (hI.grow hb)
  clear hI hb e0 e1 hbel hC hl hC0 hl0 hC9 hl9 hC19 hl19 hC20 hl20 HB
  cases hg : decide ((l.length : Int) > 40) with
  | true =>
    go_wp2_with (first | (go_at_call 14; refine (lives_any _).mono ?_; rintro e w9 ⟨rfl, hb⟩))
    refine bodyPost_ret (v := .bool true) (by simp [results, Try.results10, go_sem]) rfl ⟨rfl, HI1.out.be.trans (hb.mono HI1.out.be.size)⟩
  | false =>
  have HG := hid hg
  clear hg
  have hld := run_loadVar_row (P := Try.prog) w1 (W.heap.size + 1) 33 33 #[.slice A0 l0.length c0, .int .i64 a1, .int .i64 a2, .int .i64 a3, .int .i64 a4, .int .i64 a5, .int .i64 a6, .int .i64 a7, .int .i64 a8, .slice A9 l9.length c9, .int .i64 a10, .int .i64 a11, .int .i64 a12, .int .i64 a13, .int .i64 a14, .int .i64 a15, .int .i64 a16, .int .i64 a17, .int .i64 a18, .slice A19 l19.length c19, .slice A20 l20.length c20] (0, 0) _ HI1.out.ha Try.underlying33 rfl size33
  go_wp2_with fail
  obtain ⟨hC, hl, hC0, hl0, hC9, hl9, hC19, hl19, hC20, hl20⟩ := HC.out
  have hbe := HI1.out.be
  refine (culletlaw05_Wide.calls K A0 c0 l0 a1 a2 a3 a4 a5 a6 a7 a8 A9 c9 l9 a10 a11 a12 a13 a14 a15 a16 a17 a18 A19 c19 l19 A20 c20 l20 b _ (Kd.C_below hC0 hbe) hl0 (Kd.C_below hC9 hbe) hl9 (Kd.C_below hC19 hbe) hl19 (Kd.C_below hC20 hbe) hl20 HW.out).mono ?_
  rintro e w3 ⟨rfl, hb⟩
  have HI3 := hid (HI1.out.grow hb)
  clear hb hbe hC hl hC0 hl0 hC9 hl9 hC19 hl19 hC20 hl20 hld HI1
  cases b with
  | true =>
    go_wp2_with (first | (go_at_call 14; refine (lives_any _).mono ?_; rintro e w9 ⟨rfl, hb⟩))
    refine bodyPost_ret (v := .bool true) (by simp [results, Try.results10, go_sem]) rfl ⟨rfl, HI3.out.be.trans (hb.mono HI3.out.be.size)⟩
  | false =>
  have p0 := blkCell HI3.out.hb 0
  have p1 := blkCell HI3.out.hb 1
  have p2 := blkCell HI3.out.hb 2
  have q0 := blkCell HI3.out.ha 0
  have q1 := blkCell HI3.out.ha 1
  have q2 := blkCell HI3.out.ha 2
  have q3 := blkCell HI3.out.ha 3
  have q4 := blkCell HI3.out.ha 4
  have q9 := blkCell HI3.out.ha 9
  have q10 := blkCell HI3.out.ha 10
  simp at p0 p1 p2 q0 q1 q2 q3 q4 q9 q10
  have hth := (hw rfl).1
  have hth9 := (hw rfl).2
  have hll : l.length ≤ 40 := by have := HG.out; simp at this; omega
  clear hw
  have HL := hid (And.intro hth (And.intro hll hth9))
  clear hth hll hth9
  go_wp2_with fail
  obtain ⟨hC, hl, hC0, hl0, hC9, hl9, hC19, hl19, hC20, hl20⟩ := HC.out
  refine (Passes_any A c l fl tg a1 a2 a3 a4 A9 c9 l9 a10 _ (Kd.C_below hC HI3.out.be) (Kd.C_below hC9 HI3.out.be) (by have := HL.out.2.2; omega)).mono ?_
  rintro e w4 ⟨rfl, hb⟩
  have HI4 := hid (HI3.out.grow hb)
  clear hb hC hl hC0 hl0 hC9 hl9 hC19 hl19 hC20 hl20 p0 p1 p2 q0 q1 q2 q3 q4 q9 q10 HI3
  by_cases hz : ¬ passErr l fl tg a1 a2 a3 a4 l9 a10 = 0
  · have hbr : passesRes l fl tg a1 a2 a3 a4 l9 a10 = (false, passErr l fl tg a1 a2 a3 a4 l9 a10) := by unfold passesRes; rw [if_neg hz]
    rw [hbr]
    clear hbr
    generalize passErr l fl tg a1 a2 a3 a4 l9 a10 = ek at *
    have hzb : (ek != 0) = true := by simpa using hz
    go_wp2_with (first | (go_at_call 14; refine (lives_any _).mono ?_; rintro e w7 ⟨rfl, hb⟩))
    refine bodyPost_ret (v := .bool true) (by simp [results, Try.results10, go_sem]) rfl ⟨rfl, HI4.out.be.trans (hb.mono (HI4.out.be).size)⟩
  have hz' := Decidable.not_not.1 hz
  have HZ := hid hz'
  have hbr : passesRes l fl tg a1 a2 a3 a4 l9 a10 = (passOk (needOf l fl tg a1 a2 a3 a4) l9 a10, 0) := by unfold passesRes; rw [if_pos hz']
  rw [hbr]
  clear hbr hz hz'
  obtain ⟨is, his⟩ : ∃ b, passOk (needOf l fl tg a1 a2 a3 a4) l9 a10 = b := ⟨_, rfl⟩
  rw [his]
  have HIS := hid his
  clear his
  have p0 := blkCell HI4.out.hb 0
  have p1 := blkCell HI4.out.hb 1
  have p2 := blkCell HI4.out.hb 2
  have q0 := blkCell HI4.out.ha 0
  have q1 := blkCell HI4.out.ha 1
  have q2 := blkCell HI4.out.ha 2
  have q3 := blkCell HI4.out.ha 3
  have q4 := blkCell HI4.out.ha 4
  have q9 := blkCell HI4.out.ha 9
  have q10 := blkCell HI4.out.ha 10
  simp at p0 p1 p2 q0 q1 q2 q3 q4 q9 q10
  go_wp2_with fail
  obtain ⟨hC, hl, hC0, hl0, hC9, hl9, hC19, hl19, hC20, hl20⟩ := HC.out
  refine (Needed_any A c l fl tg a1 a2 a3 a4 _ (Kd.C_below hC HI4.out.be)).mono ?_
  rintro e w5 ⟨v, rfl, hv, hb⟩
  have hnr : neededRes l fl tg a1 a2 a3 a4 = (needOf l fl tg a1 a2 a3 a4, 0) := by unfold neededRes; rw [if_pos (pass_zero HZ.out).1]
  rw [hnr] at hv
  rw [hnr]
  obtain ⟨Ad, cd, rfl⟩ := Kd.R_slice hv
  have hCn := (Kd.R_reads' hv).2.2
  have HI5 := hid (HI4.out.grow hb)
  obtain ⟨nd, hnd⟩ : ∃ x, needOf l fl tg a1 a2 a3 a4 = x := ⟨_, rfl⟩
  rw [hnd] at hCn
  rw [hnd]
  have hnl : nd.length = l9.length := by rw [← hnd, need_len, (pass_zero HZ.out).2.1]
  have kk : ((nd.length : Int) != (l9.length : Int)) = false := by simp [hnl]
  have hgood : is = true → ∀ k (h : k < nd.length) (h' : k < l9.length), 1 ≤ nd[k] ∧ ¬ l9[k] - a10 < nd[k] := by
    intro hi k h h'
    subst hnd
    have hp := HIS.out
    rw [hi] at hp
    have g := pass_get hp h h'
    have n := need_nn h
    exact ⟨by omega, g.2.1⟩
  have HND := hid (And.intro hnd (And.intro hnl hgood))
  have HCN := hid hCn
  clear hb hC hl hC0 hl0 hC9 hl9 hC19 hl19 hC20 hl20 p0 p1 p2 q0 q1 q2 q3 q4 q9 q10 HI4 hnr hv hnd hnl hgood hCn
  have p0 := blkCell HI5.out.hb 0
  have p1 := blkCell HI5.out.hb 1
  have p2 := blkCell HI5.out.hb 2
  have q0 := blkCell HI5.out.ha 0
  have q1 := blkCell HI5.out.ha 1
  have q2 := blkCell HI5.out.ha 2
  have q3 := blkCell HI5.out.ha 3
  have q4 := blkCell HI5.out.ha 4
  have q9 := blkCell HI5.out.ha 9
  have q10 := blkCell HI5.out.ha 10
  simp at p0 p1 p2 q0 q1 q2 q3 q4 q9 q10
  go_wp2
  clear p0 p1 p2 q0 q1 q2 q3 q4 q9 q10 kk
  have HK0 := hid (own_nil w5 w5.heap.size 29 2)
  go_loopw [8, 9] (fun v8 v9 X => ∃ k : Nat, k ≤ l9.length ∧ v9 = .int .i64 k ∧ Hid (Below w5.heap.size w5 X ∧ X.ownsRow w5.heap.size 29 2 v8 k ((List.range k).flatMap (thMC l9 a10)))) (fun _ v9 _ => l9.length - (intOf v9).toNat)
  case atStart => exact ⟨0, by omega, rfl, hid ⟨Below.refl _ _, HK0.out⟩⟩
  case round =>
  obtain ⟨k, hk, rfl, HX⟩ := hrel
  have hIr := HI5.out.grow HX.out.1
  by_cases hlt : k < l9.length
  · have hd : decide ((k : Int) < (l9.length : Int)) = true := decide_eq_true (by omega)
    have q9 := blkCell hIr.ha 9
    simp at q9
    go_wp2_with fail
    clear q9
    have hC9 := Kd.C_below HC.out.2.2.2.2.1 hIr.be
    have hltn : k < nd.length := by have := HND.out.2.1; omega
    obtain ⟨am, hma, t0⟩ := Kd.at_int hC9 k (by omega) (by omega)
    obtain ⟨an, hna, n0⟩ := Kd.at_int (Kd.C_below HCN.out HX.out.1) k (by omega) (by omega)
    rw [rd_int hlt] at t0
    rw [rd_int hltn] at n0
    simp only [Int.toNat_natCast] at t0 n0
    subst hma
    subst hna
    have hms := (pass_zero HZ.out).2.2.1 k hlt
    have hac := (pass_zero HZ.out).2.2.2
    have hw1 : wrap64 (l9[k] - a10) = l9[k] - a10 := wrap64_id (by omega) (by omega)
    have hw2 : wrap64 (l9[k] + a10) = l9[k] + a10 := wrap64_id (by omega) (by omega)
    have HW := hid (And.intro hw1 hw2)
    have HN : Hid ([.int .i64 (wrap64 (l9[k] - a10)), .int .i64 (if 2000 < wrap64 (l9[k] + a10) then 2000 else wrap64 (l9[k] + a10))] = thMC l9 a10 k) := hid (by simp [thMC, thM, rd_int hlt])
    have HG := hid HND.out.2.2
    have y9 := blkCell hIr.ha 9
    have y10 := blkCell hIr.ha 10
    simp at y9 y10
    clear hC9 hms hac hw1 hw2
    cases is with
    | false =>
    refine wp_flow [[], [0], [1, 0], [1, 0], [2, 1, 0, 3], [4, 2, 1, 0, 3], [5, 4, 2, 1, 0, 3], [6, 5, 4, 2, 1, 0, 3], [7, 6, 5, 4, 2, 1, 0, 3], [8, 7, 6, 5, 4, 2, 1, 0, 3], [7, 6, 5, 4, 2, 1, 0, 3], [9, 8, 7, 6, 5, 4, 2, 1, 0, 3, 10], [11, 9, 8, 7, 6, 5, 4, 2, 1, 0, 3, 10], [7, 6, 5, 4, 2, 1, 0, 3], [13, 7, 6, 5, 4, 2, 1, 0, 3], [12, 11, 9, 8, 7, 6, 5, 4, 2, 1, 0, 3, 10, 14, 13], [7, 6, 5, 4, 2, 1, 0, 3], [7, 6, 5, 4, 2, 1, 0, 3], [16, 7, 6, 5, 4, 2, 1, 0, 3, 17], [18, 16, 7, 6, 5, 4, 2, 1, 0, 3, 17], [15, 12, 11, 9, 8, 7, 6, 5, 4, 2, 1, 0, 3, 10, 14, 13, 19, 18, 16, 17], [7, 6, 5, 4, 2, 1, 0, 3, 20, 15, 12, 11, 9, 8, 10, 14, 13, 19, 18, 16, 17], [1, 0, 21, 7, 6, 5, 4, 2, 3, 20, 15, 12, 11, 9, 8, 10, 14, 13, 19, 18, 16, 17]] 23
      (fun V => V.cell? ⟨(W.heap.size + 1), 9, none⟩ = some (.slice (some am) l9.length c9) ∧ V.cell? ⟨(W.heap.size + 1), 10, none⟩ = some (.int .i64 a10) ∧ V.cell? (am.add k) = some (.int .i64 l9[k]) ∧ V.cell? (an.add k) = some (.int .i64 nd[k]) ∧ Below wr.heap.size wr V)
      { tmps := #[.agg #[.slice A l.length c, .int .i64 fl, .int .i64 tg], .agg #[.slice A0 l0.length c0, .int .i64 a1, .int .i64 a2, .int .i64 a3, .int .i64 a4, .int .i64 a5, .int .i64 a6, .int .i64 a7, .int .i64 a8, .slice (some am) l9.length c9, .int .i64 a10, .int .i64 a11, .int .i64 a12, .int .i64 a13, .int .i64 a14, .int .i64 a15, .int .i64 a16, .int .i64 a17, .int .i64 a18, .slice A19 l19.length c19, .slice A20 l20.length c20], .pointer (some ⟨W.heap.size, 0, none⟩), .pointer (some ⟨(W.heap.size + 1), 0, none⟩), u4, .bool false, .int .i64 0, .slice (some an) nd.length cd, u8, .int .i64 k, undef, undef, .agg #[.slice A l.length c, .int .i64 fl, .int .i64 tg], .bool false, .bool false, .agg #[.slice A0 l0.length c0, .int .i64 a1, .int .i64 a2, .int .i64 a3, .int .i64 a4, .int .i64 a5, .int .i64 a6, .int .i64 a7, .int .i64 a8, .slice (some am) l9.length c9, .int .i64 a10, .int .i64 a11, .int .i64 a12, .int .i64 a13, .int .i64 a14, .int .i64 a15, .int .i64 a16, .int .i64 a17, .int .i64 a18, .slice A19 l19.length c19, .slice A20 l20.length c20], .bool false, .bool false, undef, .tuple #[.bool false, .int .i64 0], .agg #[.slice A l.length c, .int .i64 fl, .int .i64 tg], .pointer (some ⟨W.heap.size + 1, 1, none⟩), .agg #[.int .i64 a1, .int .i64 a2, .int .i64 a3, .int .i64 a4], .pointer (some ⟨W.heap.size + 1, 9, none⟩), .slice (some am) l9.length c9, .pointer (some ⟨W.heap.size + 1, 10, none⟩), .int .i64 a10, .tuple #[.bool false, .int .i64 0], .bool false, .int .i64 0, .int .i64 0, .bool false, undef, undef, undef, undef, undef, .tuple #[.slice (some an) nd.length cd, .int .i64 0], .agg #[.slice A l.length c, .int .i64 fl, .int .i64 tg], .pointer (some ⟨W.heap.size + 1, 1, none⟩), .agg #[.int .i64 a1, .int .i64 a2, .int .i64 a3, .int .i64 a4], .tuple #[.slice (some an) nd.length cd, .int .i64 0], .slice (some an) nd.length cd, .int .i64 0, .int .i64 0, .bool false, .bool false, .slice (some an) nd.length cd, .int .i64 nd.length, .pointer (some ⟨W.heap.size + 1, 9, none⟩), .slice (some am) l9.length c9, .int .i64 l9.length, .bool false, .bool false, .int .i64 k, .pointer (some ⟨W.heap.size + 1, 9, none⟩), .slice (some am) l9.length c9, .int .i64 l9.length, .bool true, u59, u60, .bool false, .bool false, undef, undef, undef, undef, undef, undef, undef, undef, undef, undef, undef, undef, undef, undef, undef, undef, undef, undef, undef, undef, .bool false, u84, u85, u86, u87, u88, u89, u90, u91, u92, u93, u94, u95, u96, u97, u98, u99, u100, u101, u102, u103, u104, undef, undef, undef, undef, undef, undef, undef, undef, undef, undef, undef, undef, undef, undef, undef, undef, undef, undef, undef, undef, undef, undef, undef, undef], defers := [] }
      mixed (by kernel_rfl) rfl (Ahead.of3 61 84 rfl rfl (by kernel_rfl) rfl rfl) ?_ (AllFlow.ops rfl ?_) rfl ?_
    · exact ⟨y9, y10, t0, n0, (Below.refl _ _).drew⟩
    · refine ⟨?_, ?_, ?_, ?_, ?_, ?_, ?_, ?_, ?_, ?_, ?_, ?_, ?_, ?_, ?_, ?_, ?_, ?_, ?_, ?_, ?_, ?_, ?_, trivial⟩
      · exact .val 61 _ rfl rfl fun V ⟨x0, x1, x2, x3, hB_⟩ => by go_simp <;> exact IntWalk.i64_left _
      · exact .val 62 _ rfl rfl fun V ⟨x0, x1, x2, x3, hB_⟩ => by go_simp <;> exact IntWalk.i64_left _
      · exact .off 63 rfl rfl
      · exact .off 64 rfl rfl
      · exact .off 65 rfl rfl
      · exact .off 66 rfl rfl
      · exact .off 67 rfl rfl
      · exact .off 68 rfl rfl
      · exact .off 69 rfl rfl
      · exact .off 70 rfl rfl
      · exact .off 71 rfl rfl
      · exact .off 72 rfl rfl
      · exact .off 73 rfl rfl
      · exact .off 74 rfl rfl
      · exact .off 75 rfl rfl
      · exact .off 76 rfl rfl
      · exact .off 77 rfl rfl
      · exact .off 78 rfl rfl
      · exact .off 79 rfl rfl
      · exact .off 80 rfl rfl
      · exact .off 81 rfl rfl
      · exact .off 82 rfl rfl
      · exact .val 83 _ rfl rfl fun V ⟨x0, x1, x2, x3, hB_⟩ => by go_simp <;> exact IntWalk.i64_left _
    · rintro W13 ⟨x0, x1, x2, x3, hB_⟩
      have HB13 := hid hB_
      clear hB_ x3 y9 y10 t0 n0
      go_wp2_with fail
      refine wp_flow3 [[], [], [1], [], [2, 1, 3], [4, 2, 1, 3], [], [6], [5, 4, 2, 1, 3, 7, 6], [], [9], [], [10, 9, 11], [12, 10, 9, 11], [], [14], [13, 12, 10, 9, 11, 15, 14], [16, 13, 12, 10, 9, 11, 15, 14], [8, 5, 4, 2, 1, 3, 7, 6, 17, 16, 13, 12, 10, 9, 11, 15, 14], [18, 8, 5, 4, 2, 1, 3, 7, 6, 17, 16, 13, 12, 10, 9, 11, 15, 14], [0, 19, 18, 8, 5, 4, 2, 1, 3, 7, 6, 17, 16, 13, 12, 10, 9, 11, 15, 14], [20, 0, 19, 18, 8, 5, 4, 2, 1, 3, 7, 6, 17, 16, 13, 12, 10, 9, 11, 15, 14]] 19
        (fun V => V.cell? ⟨(W.heap.size + 1), 9, none⟩ = some (.slice (some am) l9.length c9) ∧ V.cell? ⟨(W.heap.size + 1), 10, none⟩ = some (.int .i64 a10) ∧ V.cell? (am.add k) = some (.int .i64 l9[k]) ∧ Below W13.heap.size W13 V)
        (fun u V => (V.cell? ⟨(W.heap.size + 1), 9, none⟩ = some (.slice (some am) l9.length c9) ∧ V.cell? ⟨(W.heap.size + 1), 10, none⟩ = some (.int .i64 a10) ∧ V.cell? (am.add k) = some (.int .i64 l9[k]) ∧ Below W13.heap.size W13 V) ∧ ∃ Bx, u = .slice (some ⟨Bx, 0, none⟩) 1 1 ∧ V.heap[Bx]? = some (.cells #[.int .i64 (wrap64 (l9[k] - a10)), .int .i64 (if 2000 < wrap64 (l9[k] + a10) then 2000 else wrap64 (l9[k] + a10))] 29 (0, 0)) ∧ W13.heap.size ≤ Bx)
        { tmps := #[.agg #[.slice A l.length c, .int .i64 fl, .int .i64 tg], .agg #[.slice A0 l0.length c0, .int .i64 a1, .int .i64 a2, .int .i64 a3, .int .i64 a4, .int .i64 a5, .int .i64 a6, .int .i64 a7, .int .i64 a8, .slice (some am) l9.length c9, .int .i64 a10, .int .i64 a11, .int .i64 a12, .int .i64 a13, .int .i64 a14, .int .i64 a15, .int .i64 a16, .int .i64 a17, .int .i64 a18, .slice A19 l19.length c19, .slice A20 l20.length c20], .pointer (some ⟨W.heap.size, 0, none⟩), .pointer (some ⟨(W.heap.size + 1), 0, none⟩), u4, .bool false, .int .i64 0, .slice (some an) nd.length cd, u8, .int .i64 k, undef, undef, .agg #[.slice A l.length c, .int .i64 fl, .int .i64 tg], .bool false, .bool false, .agg #[.slice A0 l0.length c0, .int .i64 a1, .int .i64 a2, .int .i64 a3, .int .i64 a4, .int .i64 a5, .int .i64 a6, .int .i64 a7, .int .i64 a8, .slice (some am) l9.length c9, .int .i64 a10, .int .i64 a11, .int .i64 a12, .int .i64 a13, .int .i64 a14, .int .i64 a15, .int .i64 a16, .int .i64 a17, .int .i64 a18, .slice A19 l19.length c19, .slice A20 l20.length c20], .bool false, .bool false, undef, .tuple #[.bool false, .int .i64 0], .agg #[.slice A l.length c, .int .i64 fl, .int .i64 tg], .pointer (some ⟨W.heap.size + 1, 1, none⟩), .agg #[.int .i64 a1, .int .i64 a2, .int .i64 a3, .int .i64 a4], .pointer (some ⟨W.heap.size + 1, 9, none⟩), .slice (some am) l9.length c9, .pointer (some ⟨W.heap.size + 1, 10, none⟩), .int .i64 a10, .tuple #[.bool false, .int .i64 0], .bool false, .int .i64 0, .int .i64 0, .bool false, undef, undef, undef, undef, undef, .tuple #[.slice (some an) nd.length cd, .int .i64 0], .agg #[.slice A l.length c, .int .i64 fl, .int .i64 tg], .pointer (some ⟨W.heap.size + 1, 1, none⟩), .agg #[.int .i64 a1, .int .i64 a2, .int .i64 a3, .int .i64 a4], .tuple #[.slice (some an) nd.length cd, .int .i64 0], .slice (some an) nd.length cd, .int .i64 0, .int .i64 0, .bool false, .bool false, .slice (some an) nd.length cd, .int .i64 nd.length, .pointer (some ⟨W.heap.size + 1, 9, none⟩), .slice (some am) l9.length c9, .int .i64 l9.length, .bool false, .bool false, .int .i64 k, .pointer (some ⟨W.heap.size + 1, 9, none⟩), .slice (some am) l9.length c9, .int .i64 l9.length, .bool true, u59, u60, .bool false, .bool false, undef, undef, undef, undef, undef, undef, undef, undef, undef, undef, undef, undef, undef, undef, undef, undef, undef, undef, undef, undef, .bool false, u8, .pointer (some ⟨(W.heap.size + 1), 9, none⟩), .slice (some am) l9.length c9, .int .i64 k, .pointer (some (am.add k)), .int .i64 (l9[k]), .pointer (some ⟨(W.heap.size + 1), 10, none⟩), .int .i64 a10, .int .i64 (wrap64 ((l9[k]) - a10)), .pointer (some ⟨(W.heap.size + 1), 9, none⟩), .slice (some am) l9.length c9, .int .i64 k, .pointer (some (am.add k)), .int .i64 (l9[k]), .pointer (some ⟨(W.heap.size + 1), 10, none⟩), .int .i64 a10, .int .i64 (wrap64 ((l9[k]) + a10)), .int .i64 (if 2000 < wrap64 (l9[k] + a10) then 2000 else wrap64 (l9[k] + a10)), .agg #[.int .i64 (wrap64 ((l9[k]) - a10)), .int .i64 (if 2000 < wrap64 (l9[k] + a10) then 2000 else wrap64 (l9[k] + a10))], u103, u104, undef, undef, undef, undef, undef, undef, undef, undef, undef, undef, undef, undef, undef, undef, undef, undef, undef, undef, undef, undef, undef, undef, undef, undef], defers := [] }
        mixed (by kernel_rfl) rfl (Ahead.of3 84 103 rfl rfl (by kernel_rfl) rfl rfl) ?_ ?_ ?_ rfl ?_
      · exact ⟨x0, x1, x2, (Below.refl _ _).drew⟩
      · refine EachOp3.ops rfl ⟨?_, ?_, ?_, ?_, ?_, ?_, ?_, ?_, ?_, ?_, ?_, ?_, ?_, ?_, ?_, ?_, ?_, ?_, ?_, trivial⟩
        · exact .inr (LookOp.either (fun _ _ h => h.1) (LookOp.val 84 _ rfl rfl fun V ⟨x0, x1, x2, hB_⟩ => by go_simp <;> exact IntWalk.i64_left _))
        · exact .inr (LookOp.either (fun _ _ h => h.1) (LookOp.val 85 _ rfl rfl fun V ⟨x0, x1, x2, hB_⟩ => by go_simp <;> exact IntWalk.i64_left _))
        · exact .inr (LookOp.either (fun _ _ h => h.1) (LookOp.val 86 _ rfl rfl fun V ⟨x0, x1, x2, hB_⟩ => by go_simp <;> exact IntWalk.i64_left _))
        · exact .inr (LookOp.either (fun _ _ h => h.1) (LookOp.val 87 _ rfl rfl fun V ⟨x0, x1, x2, hB_⟩ => by go_simp <;> exact IntWalk.i64_left _))
        · exact .inr (LookOp.either (fun _ _ h => h.1) (LookOp.val 88 _ rfl rfl fun V ⟨x0, x1, x2, hB_⟩ => by go_simp <;> exact IntWalk.i64_left _))
        · exact .inr (LookOp.either (fun _ _ h => h.1) (LookOp.val 89 _ rfl rfl fun V ⟨x0, x1, x2, hB_⟩ => by go_simp <;> exact IntWalk.i64_left _))
        · exact .inr (LookOp.either (fun _ _ h => h.1) (LookOp.val 90 _ rfl rfl fun V ⟨x0, x1, x2, hB_⟩ => by go_simp <;> exact IntWalk.i64_left _))
        · exact .inr (LookOp.either (fun _ _ h => h.1) (LookOp.val 91 _ rfl rfl fun V ⟨x0, x1, x2, hB_⟩ => by go_simp <;> exact IntWalk.i64_left _))
        · exact .inr (LookOp.either (fun _ _ h => h.1) (LookOp.val 92 _ rfl rfl fun V ⟨x0, x1, x2, hB_⟩ => by go_simp <;> exact IntWalk.i64_left _))
        · exact .inr (LookOp.either (fun _ _ h => h.1) (LookOp.val 93 _ rfl rfl fun V ⟨x0, x1, x2, hB_⟩ => by go_simp <;> exact IntWalk.i64_left _))
        · exact .inr (LookOp.either (fun _ _ h => h.1) (LookOp.val 94 _ rfl rfl fun V ⟨x0, x1, x2, hB_⟩ => by go_simp <;> exact IntWalk.i64_left _))
        · exact .inr (LookOp.either (fun _ _ h => h.1) (LookOp.val 95 _ rfl rfl fun V ⟨x0, x1, x2, hB_⟩ => by go_simp <;> exact IntWalk.i64_left _))
        · exact .inr (LookOp.either (fun _ _ h => h.1) (LookOp.val 96 _ rfl rfl fun V ⟨x0, x1, x2, hB_⟩ => by go_simp <;> exact IntWalk.i64_left _))
        · exact .inr (LookOp.either (fun _ _ h => h.1) (LookOp.val 97 _ rfl rfl fun V ⟨x0, x1, x2, hB_⟩ => by go_simp <;> exact IntWalk.i64_left _))
        · exact .inr (LookOp.either (fun _ _ h => h.1) (LookOp.val 98 _ rfl rfl fun V ⟨x0, x1, x2, hB_⟩ => by go_simp <;> exact IntWalk.i64_left _))
        · exact .inr (LookOp.either (fun _ _ h => h.1) (LookOp.val 99 _ rfl rfl fun V ⟨x0, x1, x2, hB_⟩ => by go_simp <;> exact IntWalk.i64_left _))
        · exact .inr (LookOp.either (fun _ _ h => h.1) (LookOp.val 100 _ rfl rfl fun V ⟨x0, x1, x2, hB_⟩ => by go_simp <;> exact IntWalk.i64_left _))
        · exact .inr (LookOp.either (fun _ _ h => h.1) (LookOp.val 101 _ rfl rfl fun V ⟨x0, x1, x2, hB_⟩ => by go_simp <;> exact IntWalk.i64_left _))
        · exact .inr (LookOp.either (fun _ _ h => h.1) (LookOp.val 102 _ rfl rfl fun V ⟨x0, x1, x2, hB_⟩ => by go_simp <;> exact IntWalk.i64_left _))
      · refine ⟨rfl, fun W2 ⟨x0, x1, x2, hB_⟩ => ?_⟩
        have hgr := (Below.refl W2.heap.size W2).alloc (Nat.le_refl _) (.cells #[.int .i64 (wrap64 (l9[k] - a10)), .int .i64 (if 2000 < wrap64 (l9[k] + a10) then 2000 else wrap64 (l9[k] + a10))] 29)
        exact ⟨.slice (some ⟨W2.heap.size, 0, none⟩) 1 1, W2.alloc (.cells #[.int .i64 (wrap64 (l9[k] - a10)), .int .i64 (if 2000 < wrap64 (l9[k] + a10) then 2000 else wrap64 (l9[k] + a10))] 29), by go_simp, ⟨cell_grow x0 hgr, cell_grow x1 hgr, cell_growp x2 hgr, hB_.trans (hgr.mono hB_.size)⟩, W2.heap.size, rfl, World.alloc_heap_new _ _, hB_.size⟩
      · rintro _ W2 ⟨⟨x0, x1, x2, hB_⟩, Bx, rfl, hx, hle⟩
        obtain ⟨hbX, hO⟩ := HX.out
        have hB_ := HB13.out.trans (hB_.mono HB13.out.size)
        obtain ⟨i0, hi, hz0, hz1, hz2⟩ := info29'
        refine wpList_append_own W2 rfl _ _ 25 rfl w5.heap.size 29 i0 _ 2 16 Try.underlying25 hi hz0 hz1 hz2 rfl (by decide) u8 k _ rfl (rings_set hO hB_) ⟨Bx, 0, none⟩ 1 1 [.int .i64 (wrap64 (l9[k] - a10)), .int .i64 (if 2000 < wrap64 (l9[k] + a10) then 2000 else wrap64 (l9[k] + a10))] rfl rfl (two_cells hx) (by simp [Value.oneCell']) (by have := HL.out.2.2; unfold maxLen; omega) (by have := HL.out.2.2; omega) (Nat.le_trans hbX.size hB_.size) ?_
        intro v' w8 hown' hgrow _
        have g3 := (hbX.trans (hB_.mono hbX.size)).grown hgrow (by have := hB_.size; have := hbX.size; omega) (fun j hj => own_base (rings_set hO hB_) hj (Nat.le_refl _))
        rw [HN.out] at hown'
        have hown2 : w8.ownsRow w5.heap.size 29 2 v' (k + 1) ((List.range (k + 1)).flatMap (thMC l9 a10)) := by
          rw [List.range_succ, List.flatMap_append]
          simpa using hown'
        have HX2 := hid (And.intro g3 hown2)
        have rk : wrap64 ((k : Int) + 1) = ((k + 1 : Nat) : Int) := by rw [wrap64_id (by omega) (by have := HL.out.2.2; omega)]; simp
        clear g3 hown2 hown' hgrow hx hle hbX hO x0 x1 x2 hB_ hi hz0 hz1 hz2 hIr HB13
        go_wp2
        simp only [rk]
        clear rk
        go_roundw
        case rel => exact ⟨k + 1, by omega, rfl, HX2⟩
        case measure => simp [intOf]; omega
    | true =>
    have hg := HG.out rfl k hltn hlt
    have s1 : decide (nd[k] < 1) = false := decide_eq_false (by omega)
    have s2 : decide (wrap64 (l9[k] - a10) < nd[k]) = false := decide_eq_false (by rw [HW.out.1]; omega)
    refine wp_flow [[], [0], [1, 0], [1, 0], [2, 1, 0, 3], [4, 2, 1, 0, 3], [5, 4, 2, 1, 0, 3], [6, 5, 4, 2, 1, 0, 3], [7, 6, 5, 4, 2, 1, 0, 3], [8, 7, 6, 5, 4, 2, 1, 0, 3], [7, 6, 5, 4, 2, 1, 0, 3], [9, 8, 7, 6, 5, 4, 2, 1, 0, 3, 10], [11, 9, 8, 7, 6, 5, 4, 2, 1, 0, 3, 10], [7, 6, 5, 4, 2, 1, 0, 3], [13, 7, 6, 5, 4, 2, 1, 0, 3], [12, 11, 9, 8, 7, 6, 5, 4, 2, 1, 0, 3, 10, 14, 13], [7, 6, 5, 4, 2, 1, 0, 3], [7, 6, 5, 4, 2, 1, 0, 3], [16, 7, 6, 5, 4, 2, 1, 0, 3, 17], [18, 16, 7, 6, 5, 4, 2, 1, 0, 3, 17], [15, 12, 11, 9, 8, 7, 6, 5, 4, 2, 1, 0, 3, 10, 14, 13, 19, 18, 16, 17], [7, 6, 5, 4, 2, 1, 0, 3, 20, 15, 12, 11, 9, 8, 10, 14, 13, 19, 18, 16, 17], [1, 0, 21, 7, 6, 5, 4, 2, 3, 20, 15, 12, 11, 9, 8, 10, 14, 13, 19, 18, 16, 17]] 23
      (fun V => V.cell? ⟨(W.heap.size + 1), 9, none⟩ = some (.slice (some am) l9.length c9) ∧ V.cell? ⟨(W.heap.size + 1), 10, none⟩ = some (.int .i64 a10) ∧ V.cell? (am.add k) = some (.int .i64 l9[k]) ∧ V.cell? (an.add k) = some (.int .i64 nd[k]) ∧ Below wr.heap.size wr V)
      { tmps := #[.agg #[.slice A l.length c, .int .i64 fl, .int .i64 tg], .agg #[.slice A0 l0.length c0, .int .i64 a1, .int .i64 a2, .int .i64 a3, .int .i64 a4, .int .i64 a5, .int .i64 a6, .int .i64 a7, .int .i64 a8, .slice (some am) l9.length c9, .int .i64 a10, .int .i64 a11, .int .i64 a12, .int .i64 a13, .int .i64 a14, .int .i64 a15, .int .i64 a16, .int .i64 a17, .int .i64 a18, .slice A19 l19.length c19, .slice A20 l20.length c20], .pointer (some ⟨W.heap.size, 0, none⟩), .pointer (some ⟨(W.heap.size + 1), 0, none⟩), u4, .bool true, .int .i64 0, .slice (some an) nd.length cd, u8, .int .i64 k, undef, undef, .agg #[.slice A l.length c, .int .i64 fl, .int .i64 tg], .bool false, .bool false, .agg #[.slice A0 l0.length c0, .int .i64 a1, .int .i64 a2, .int .i64 a3, .int .i64 a4, .int .i64 a5, .int .i64 a6, .int .i64 a7, .int .i64 a8, .slice (some am) l9.length c9, .int .i64 a10, .int .i64 a11, .int .i64 a12, .int .i64 a13, .int .i64 a14, .int .i64 a15, .int .i64 a16, .int .i64 a17, .int .i64 a18, .slice A19 l19.length c19, .slice A20 l20.length c20], .bool false, .bool false, undef, .tuple #[.bool true, .int .i64 0], .agg #[.slice A l.length c, .int .i64 fl, .int .i64 tg], .pointer (some ⟨W.heap.size + 1, 1, none⟩), .agg #[.int .i64 a1, .int .i64 a2, .int .i64 a3, .int .i64 a4], .pointer (some ⟨W.heap.size + 1, 9, none⟩), .slice (some am) l9.length c9, .pointer (some ⟨W.heap.size + 1, 10, none⟩), .int .i64 a10, .tuple #[.bool true, .int .i64 0], .bool true, .int .i64 0, .int .i64 0, .bool false, undef, undef, undef, undef, undef, .tuple #[.slice (some an) nd.length cd, .int .i64 0], .agg #[.slice A l.length c, .int .i64 fl, .int .i64 tg], .pointer (some ⟨W.heap.size + 1, 1, none⟩), .agg #[.int .i64 a1, .int .i64 a2, .int .i64 a3, .int .i64 a4], .tuple #[.slice (some an) nd.length cd, .int .i64 0], .slice (some an) nd.length cd, .int .i64 0, .int .i64 0, .bool false, .bool false, .slice (some an) nd.length cd, .int .i64 nd.length, .pointer (some ⟨W.heap.size + 1, 9, none⟩), .slice (some am) l9.length c9, .int .i64 l9.length, .bool false, .bool false, .int .i64 k, .pointer (some ⟨W.heap.size + 1, 9, none⟩), .slice (some am) l9.length c9, .int .i64 l9.length, .bool true, u59, u60, .bool true, .bool true, .slice (some an) nd.length cd, .int .i64 k, .pointer (some (an.add k)), .int .i64 (nd[k]), .bool false, .bool false, .pointer (some ⟨(W.heap.size + 1), 9, none⟩), .slice (some am) l9.length c9, .int .i64 k, .pointer (some (am.add k)), .int .i64 (l9[k]), .pointer (some ⟨(W.heap.size + 1), 10, none⟩), .int .i64 a10, .int .i64 (wrap64 ((l9[k]) - a10)), .slice (some an) nd.length cd, .int .i64 k, .pointer (some (an.add k)), .int .i64 (nd[k]), .bool false, .bool false, .bool false, u84, u85, u86, u87, u88, u89, u90, u91, u92, u93, u94, u95, u96, u97, u98, u99, u100, u101, u102, u103, u104, undef, undef, undef, undef, undef, undef, undef, undef, undef, undef, undef, undef, undef, undef, undef, undef, undef, undef, undef, undef, undef, undef, undef, undef], defers := [] }
      mixed (by kernel_rfl) rfl (Ahead.of3 61 84 rfl rfl (by kernel_rfl) rfl rfl) ?_ (AllFlow.ops rfl ?_) rfl ?_
    · exact ⟨y9, y10, t0, n0, (Below.refl _ _).drew⟩
    · refine ⟨?_, ?_, ?_, ?_, ?_, ?_, ?_, ?_, ?_, ?_, ?_, ?_, ?_, ?_, ?_, ?_, ?_, ?_, ?_, ?_, ?_, ?_, ?_, trivial⟩
      · exact .val 61 _ rfl rfl fun V ⟨x0, x1, x2, x3, hB_⟩ => by go_simp <;> exact IntWalk.i64_left _
      · exact .val 62 _ rfl rfl fun V ⟨x0, x1, x2, x3, hB_⟩ => by go_simp <;> exact IntWalk.i64_left _
      · exact .val 63 _ rfl rfl fun V ⟨x0, x1, x2, x3, hB_⟩ => by go_simp <;> exact IntWalk.i64_left _
      · exact .val 64 _ rfl rfl fun V ⟨x0, x1, x2, x3, hB_⟩ => by go_simp <;> exact IntWalk.i64_left _
      · exact .val 65 _ rfl rfl fun V ⟨x0, x1, x2, x3, hB_⟩ => by go_simp <;> exact IntWalk.i64_left _
      · exact .val 66 _ rfl rfl fun V ⟨x0, x1, x2, x3, hB_⟩ => by go_simp <;> exact IntWalk.i64_left _
      · exact .val 67 _ rfl rfl fun V ⟨x0, x1, x2, x3, hB_⟩ => by go_simp <;> exact IntWalk.i64_left _
      · exact .val 68 _ rfl rfl fun V ⟨x0, x1, x2, x3, hB_⟩ => by go_simp <;> exact IntWalk.i64_left _
      · exact .val 69 _ rfl rfl fun V ⟨x0, x1, x2, x3, hB_⟩ => by go_simp <;> exact IntWalk.i64_left _
      · exact .val 70 _ rfl rfl fun V ⟨x0, x1, x2, x3, hB_⟩ => by go_simp <;> exact IntWalk.i64_left _
      · exact .val 71 _ rfl rfl fun V ⟨x0, x1, x2, x3, hB_⟩ => by go_simp <;> exact IntWalk.i64_left _
      · exact .val 72 _ rfl rfl fun V ⟨x0, x1, x2, x3, hB_⟩ => by go_simp <;> exact IntWalk.i64_left _
      · exact .val 73 _ rfl rfl fun V ⟨x0, x1, x2, x3, hB_⟩ => by go_simp <;> exact IntWalk.i64_left _
      · exact .val 74 _ rfl rfl fun V ⟨x0, x1, x2, x3, hB_⟩ => by go_simp <;> exact IntWalk.i64_left _
      · exact .val 75 _ rfl rfl fun V ⟨x0, x1, x2, x3, hB_⟩ => by go_simp <;> exact IntWalk.i64_left _
      · exact .val 76 _ rfl rfl fun V ⟨x0, x1, x2, x3, hB_⟩ => by go_simp <;> exact IntWalk.i64_left _
      · exact .val 77 _ rfl rfl fun V ⟨x0, x1, x2, x3, hB_⟩ => by go_simp <;> exact IntWalk.i64_left _
      · exact .val 78 _ rfl rfl fun V ⟨x0, x1, x2, x3, hB_⟩ => by go_simp <;> exact IntWalk.i64_left _
      · exact .val 79 _ rfl rfl fun V ⟨x0, x1, x2, x3, hB_⟩ => by go_simp <;> exact IntWalk.i64_left _
      · exact .val 80 _ rfl rfl fun V ⟨x0, x1, x2, x3, hB_⟩ => by go_simp <;> exact IntWalk.i64_left _
      · exact .val 81 _ rfl rfl fun V ⟨x0, x1, x2, x3, hB_⟩ => by go_simp <;> exact IntWalk.i64_left _
      · exact .val 82 _ rfl rfl fun V ⟨x0, x1, x2, x3, hB_⟩ => by go_simp <;> exact IntWalk.i64_left _
      · exact .val 83 _ rfl rfl fun V ⟨x0, x1, x2, x3, hB_⟩ => by go_simp <;> exact IntWalk.i64_left _
    · rintro W13 ⟨x0, x1, x2, x3, hB_⟩
      have HB13 := hid hB_
      clear hB_ x3 y9 y10 t0 n0
      go_wp2_with fail
      refine wp_flow3 [[], [], [1], [], [2, 1, 3], [4, 2, 1, 3], [], [6], [5, 4, 2, 1, 3, 7, 6], [], [9], [], [10, 9, 11], [12, 10, 9, 11], [], [14], [13, 12, 10, 9, 11, 15, 14], [16, 13, 12, 10, 9, 11, 15, 14], [8, 5, 4, 2, 1, 3, 7, 6, 17, 16, 13, 12, 10, 9, 11, 15, 14], [18, 8, 5, 4, 2, 1, 3, 7, 6, 17, 16, 13, 12, 10, 9, 11, 15, 14], [0, 19, 18, 8, 5, 4, 2, 1, 3, 7, 6, 17, 16, 13, 12, 10, 9, 11, 15, 14], [20, 0, 19, 18, 8, 5, 4, 2, 1, 3, 7, 6, 17, 16, 13, 12, 10, 9, 11, 15, 14]] 19
        (fun V => V.cell? ⟨(W.heap.size + 1), 9, none⟩ = some (.slice (some am) l9.length c9) ∧ V.cell? ⟨(W.heap.size + 1), 10, none⟩ = some (.int .i64 a10) ∧ V.cell? (am.add k) = some (.int .i64 l9[k]) ∧ Below W13.heap.size W13 V)
        (fun u V => (V.cell? ⟨(W.heap.size + 1), 9, none⟩ = some (.slice (some am) l9.length c9) ∧ V.cell? ⟨(W.heap.size + 1), 10, none⟩ = some (.int .i64 a10) ∧ V.cell? (am.add k) = some (.int .i64 l9[k]) ∧ Below W13.heap.size W13 V) ∧ ∃ Bx, u = .slice (some ⟨Bx, 0, none⟩) 1 1 ∧ V.heap[Bx]? = some (.cells #[.int .i64 (wrap64 (l9[k] - a10)), .int .i64 (if 2000 < wrap64 (l9[k] + a10) then 2000 else wrap64 (l9[k] + a10))] 29 (0, 0)) ∧ W13.heap.size ≤ Bx)
        { tmps := #[.agg #[.slice A l.length c, .int .i64 fl, .int .i64 tg], .agg #[.slice A0 l0.length c0, .int .i64 a1, .int .i64 a2, .int .i64 a3, .int .i64 a4, .int .i64 a5, .int .i64 a6, .int .i64 a7, .int .i64 a8, .slice (some am) l9.length c9, .int .i64 a10, .int .i64 a11, .int .i64 a12, .int .i64 a13, .int .i64 a14, .int .i64 a15, .int .i64 a16, .int .i64 a17, .int .i64 a18, .slice A19 l19.length c19, .slice A20 l20.length c20], .pointer (some ⟨W.heap.size, 0, none⟩), .pointer (some ⟨(W.heap.size + 1), 0, none⟩), u4, .bool true, .int .i64 0, .slice (some an) nd.length cd, u8, .int .i64 k, undef, undef, .agg #[.slice A l.length c, .int .i64 fl, .int .i64 tg], .bool false, .bool false, .agg #[.slice A0 l0.length c0, .int .i64 a1, .int .i64 a2, .int .i64 a3, .int .i64 a4, .int .i64 a5, .int .i64 a6, .int .i64 a7, .int .i64 a8, .slice (some am) l9.length c9, .int .i64 a10, .int .i64 a11, .int .i64 a12, .int .i64 a13, .int .i64 a14, .int .i64 a15, .int .i64 a16, .int .i64 a17, .int .i64 a18, .slice A19 l19.length c19, .slice A20 l20.length c20], .bool false, .bool false, undef, .tuple #[.bool true, .int .i64 0], .agg #[.slice A l.length c, .int .i64 fl, .int .i64 tg], .pointer (some ⟨W.heap.size + 1, 1, none⟩), .agg #[.int .i64 a1, .int .i64 a2, .int .i64 a3, .int .i64 a4], .pointer (some ⟨W.heap.size + 1, 9, none⟩), .slice (some am) l9.length c9, .pointer (some ⟨W.heap.size + 1, 10, none⟩), .int .i64 a10, .tuple #[.bool true, .int .i64 0], .bool true, .int .i64 0, .int .i64 0, .bool false, undef, undef, undef, undef, undef, .tuple #[.slice (some an) nd.length cd, .int .i64 0], .agg #[.slice A l.length c, .int .i64 fl, .int .i64 tg], .pointer (some ⟨W.heap.size + 1, 1, none⟩), .agg #[.int .i64 a1, .int .i64 a2, .int .i64 a3, .int .i64 a4], .tuple #[.slice (some an) nd.length cd, .int .i64 0], .slice (some an) nd.length cd, .int .i64 0, .int .i64 0, .bool false, .bool false, .slice (some an) nd.length cd, .int .i64 nd.length, .pointer (some ⟨W.heap.size + 1, 9, none⟩), .slice (some am) l9.length c9, .int .i64 l9.length, .bool false, .bool false, .int .i64 k, .pointer (some ⟨W.heap.size + 1, 9, none⟩), .slice (some am) l9.length c9, .int .i64 l9.length, .bool true, u59, u60, .bool true, .bool true, .slice (some an) nd.length cd, .int .i64 k, .pointer (some (an.add k)), .int .i64 (nd[k]), .bool false, .bool false, .pointer (some ⟨(W.heap.size + 1), 9, none⟩), .slice (some am) l9.length c9, .int .i64 k, .pointer (some (am.add k)), .int .i64 (l9[k]), .pointer (some ⟨(W.heap.size + 1), 10, none⟩), .int .i64 a10, .int .i64 (wrap64 ((l9[k]) - a10)), .slice (some an) nd.length cd, .int .i64 k, .pointer (some (an.add k)), .int .i64 (nd[k]), .bool false, .bool false, .bool false, u8, .pointer (some ⟨(W.heap.size + 1), 9, none⟩), .slice (some am) l9.length c9, .int .i64 k, .pointer (some (am.add k)), .int .i64 (l9[k]), .pointer (some ⟨(W.heap.size + 1), 10, none⟩), .int .i64 a10, .int .i64 (wrap64 ((l9[k]) - a10)), .pointer (some ⟨(W.heap.size + 1), 9, none⟩), .slice (some am) l9.length c9, .int .i64 k, .pointer (some (am.add k)), .int .i64 (l9[k]), .pointer (some ⟨(W.heap.size + 1), 10, none⟩), .int .i64 a10, .int .i64 (wrap64 ((l9[k]) + a10)), .int .i64 (if 2000 < wrap64 (l9[k] + a10) then 2000 else wrap64 (l9[k] + a10)), .agg #[.int .i64 (wrap64 ((l9[k]) - a10)), .int .i64 (if 2000 < wrap64 (l9[k] + a10) then 2000 else wrap64 (l9[k] + a10))], u103, u104, undef, undef, undef, undef, undef, undef, undef, undef, undef, undef, undef, undef, undef, undef, undef, undef, undef, undef, undef, undef, undef, undef, undef, undef], defers := [] }
        mixed (by kernel_rfl) rfl (Ahead.of3 84 103 rfl rfl (by kernel_rfl) rfl rfl) ?_ ?_ ?_ rfl ?_
      · exact ⟨x0, x1, x2, (Below.refl _ _).drew⟩
      · refine EachOp3.ops rfl ⟨?_, ?_, ?_, ?_, ?_, ?_, ?_, ?_, ?_, ?_, ?_, ?_, ?_, ?_, ?_, ?_, ?_, ?_, ?_, trivial⟩
        · exact .inr (LookOp.either (fun _ _ h => h.1) (LookOp.val 84 _ rfl rfl fun V ⟨x0, x1, x2, hB_⟩ => by go_simp <;> exact IntWalk.i64_left _))
        · exact .inr (LookOp.either (fun _ _ h => h.1) (LookOp.val 85 _ rfl rfl fun V ⟨x0, x1, x2, hB_⟩ => by go_simp <;> exact IntWalk.i64_left _))
        · exact .inr (LookOp.either (fun _ _ h => h.1) (LookOp.val 86 _ rfl rfl fun V ⟨x0, x1, x2, hB_⟩ => by go_simp <;> exact IntWalk.i64_left _))
        · exact .inr (LookOp.either (fun _ _ h => h.1) (LookOp.val 87 _ rfl rfl fun V ⟨x0, x1, x2, hB_⟩ => by go_simp <;> exact IntWalk.i64_left _))
        · exact .inr (LookOp.either (fun _ _ h => h.1) (LookOp.val 88 _ rfl rfl fun V ⟨x0, x1, x2, hB_⟩ => by go_simp <;> exact IntWalk.i64_left _))
        · exact .inr (LookOp.either (fun _ _ h => h.1) (LookOp.val 89 _ rfl rfl fun V ⟨x0, x1, x2, hB_⟩ => by go_simp <;> exact IntWalk.i64_left _))
        · exact .inr (LookOp.either (fun _ _ h => h.1) (LookOp.val 90 _ rfl rfl fun V ⟨x0, x1, x2, hB_⟩ => by go_simp <;> exact IntWalk.i64_left _))
        · exact .inr (LookOp.either (fun _ _ h => h.1) (LookOp.val 91 _ rfl rfl fun V ⟨x0, x1, x2, hB_⟩ => by go_simp <;> exact IntWalk.i64_left _))
        · exact .inr (LookOp.either (fun _ _ h => h.1) (LookOp.val 92 _ rfl rfl fun V ⟨x0, x1, x2, hB_⟩ => by go_simp <;> exact IntWalk.i64_left _))
        · exact .inr (LookOp.either (fun _ _ h => h.1) (LookOp.val 93 _ rfl rfl fun V ⟨x0, x1, x2, hB_⟩ => by go_simp <;> exact IntWalk.i64_left _))
        · exact .inr (LookOp.either (fun _ _ h => h.1) (LookOp.val 94 _ rfl rfl fun V ⟨x0, x1, x2, hB_⟩ => by go_simp <;> exact IntWalk.i64_left _))
        · exact .inr (LookOp.either (fun _ _ h => h.1) (LookOp.val 95 _ rfl rfl fun V ⟨x0, x1, x2, hB_⟩ => by go_simp <;> exact IntWalk.i64_left _))
        · exact .inr (LookOp.either (fun _ _ h => h.1) (LookOp.val 96 _ rfl rfl fun V ⟨x0, x1, x2, hB_⟩ => by go_simp <;> exact IntWalk.i64_left _))
        · exact .inr (LookOp.either (fun _ _ h => h.1) (LookOp.val 97 _ rfl rfl fun V ⟨x0, x1, x2, hB_⟩ => by go_simp <;> exact IntWalk.i64_left _))
        · exact .inr (LookOp.either (fun _ _ h => h.1) (LookOp.val 98 _ rfl rfl fun V ⟨x0, x1, x2, hB_⟩ => by go_simp <;> exact IntWalk.i64_left _))
        · exact .inr (LookOp.either (fun _ _ h => h.1) (LookOp.val 99 _ rfl rfl fun V ⟨x0, x1, x2, hB_⟩ => by go_simp <;> exact IntWalk.i64_left _))
        · exact .inr (LookOp.either (fun _ _ h => h.1) (LookOp.val 100 _ rfl rfl fun V ⟨x0, x1, x2, hB_⟩ => by go_simp <;> exact IntWalk.i64_left _))
        · exact .inr (LookOp.either (fun _ _ h => h.1) (LookOp.val 101 _ rfl rfl fun V ⟨x0, x1, x2, hB_⟩ => by go_simp <;> exact IntWalk.i64_left _))
        · exact .inr (LookOp.either (fun _ _ h => h.1) (LookOp.val 102 _ rfl rfl fun V ⟨x0, x1, x2, hB_⟩ => by go_simp <;> exact IntWalk.i64_left _))
      · refine ⟨rfl, fun W2 ⟨x0, x1, x2, hB_⟩ => ?_⟩
        have hgr := (Below.refl W2.heap.size W2).alloc (Nat.le_refl _) (.cells #[.int .i64 (wrap64 (l9[k] - a10)), .int .i64 (if 2000 < wrap64 (l9[k] + a10) then 2000 else wrap64 (l9[k] + a10))] 29)
        exact ⟨.slice (some ⟨W2.heap.size, 0, none⟩) 1 1, W2.alloc (.cells #[.int .i64 (wrap64 (l9[k] - a10)), .int .i64 (if 2000 < wrap64 (l9[k] + a10) then 2000 else wrap64 (l9[k] + a10))] 29), by go_simp, ⟨cell_grow x0 hgr, cell_grow x1 hgr, cell_growp x2 hgr, hB_.trans (hgr.mono hB_.size)⟩, W2.heap.size, rfl, World.alloc_heap_new _ _, hB_.size⟩
      · rintro _ W2 ⟨⟨x0, x1, x2, hB_⟩, Bx, rfl, hx, hle⟩
        obtain ⟨hbX, hO⟩ := HX.out
        have hB_ := HB13.out.trans (hB_.mono HB13.out.size)
        obtain ⟨i0, hi, hz0, hz1, hz2⟩ := info29'
        refine wpList_append_own W2 rfl _ _ 25 rfl w5.heap.size 29 i0 _ 2 16 Try.underlying25 hi hz0 hz1 hz2 rfl (by decide) u8 k _ rfl (rings_set hO hB_) ⟨Bx, 0, none⟩ 1 1 [.int .i64 (wrap64 (l9[k] - a10)), .int .i64 (if 2000 < wrap64 (l9[k] + a10) then 2000 else wrap64 (l9[k] + a10))] rfl rfl (two_cells hx) (by simp [Value.oneCell']) (by have := HL.out.2.2; unfold maxLen; omega) (by have := HL.out.2.2; omega) (Nat.le_trans hbX.size hB_.size) ?_
        intro v' w8 hown' hgrow _
        have g3 := (hbX.trans (hB_.mono hbX.size)).grown hgrow (by have := hB_.size; have := hbX.size; omega) (fun j hj => own_base (rings_set hO hB_) hj (Nat.le_refl _))
        rw [HN.out] at hown'
        have hown2 : w8.ownsRow w5.heap.size 29 2 v' (k + 1) ((List.range (k + 1)).flatMap (thMC l9 a10)) := by
          rw [List.range_succ, List.flatMap_append]
          simpa using hown'
        have HX2 := hid (And.intro g3 hown2)
        have rk : wrap64 ((k : Int) + 1) = ((k + 1 : Nat) : Int) := by rw [wrap64_id (by omega) (by have := HL.out.2.2; omega)]; simp
        clear g3 hown2 hown' hgrow hx hle hbX hO x0 x1 x2 hB_ hi hz0 hz1 hz2 hIr HB13
        go_wp2
        simp only [rk]
        clear rk
        go_roundw
        case rel => exact ⟨k + 1, by omega, rfl, HX2⟩
        case measure => simp [intOf]; omega
  · have hd : decide ((k : Int) < (l9.length : Int)) = false := decide_eq_false (by omega)
    obtain ⟨hbX, hO⟩ := HX.out
    obtain rfl : k = l9.length := by omega
    have hR1 : Kd.R k29 29 wr w5.heap.size (fun _ => True) u8 (thMs l9 a10) := R29_of (l := List.range l9.length) (f := thM l9 a10) (by rw [List.length_range]; exact hO)
    obtain ⟨A3, c3, rfl, hC3, hl3⟩ := row_open hR1
    have HT := hid (And.intro hC3 hl3)
    have HIr := hid hIr
    have p0 := blkCell hIr.hb 0
    have p1 := blkCell hIr.hb 1
    have p2 := blkCell hIr.hb 2
    have q0 := blkCell hIr.ha 0
    have q1 := blkCell hIr.ha 1
    have q2 := blkCell hIr.ha 2
    have q3 := blkCell hIr.ha 3
    have q4 := blkCell hIr.ha 4
    have q9 := blkCell hIr.ha 9
    have q10 := blkCell hIr.ha 10
    simp at p0 p1 p2 q0 q1 q2 q3 q4 q9 q10
    clear hR1 hC3 hl3 hbX hO hIr HX
    cases is with
    | false =>
      go_wp2_with (first | (go_at_call 14; refine (lives_any _).mono ?_; rintro e w7 ⟨rfl, hb⟩))
      refine bodyPost_ret (v := .bool true) (by simp [results, Try.results10, go_sem]) rfl ⟨rfl, HIr.out.be.trans (hb.mono (HIr.out.be).size)⟩
    | true =>
    go_wp2_with fail
    refine (Holds_any A c l fl tg A3 c3 (thMs l9 a10) a1 a2 a3 a4 _ (Kd.C_below HC.out.1 HIr.out.be) HT.out.1 (by have := HL.out.2.2; rw [thMs_len]; omega) (by have := HL.out.2.1; omega)).mono ?_
    rintro e w8 ⟨rfl, hb⟩
    rw [pass_holds HZ.out HIS.out]
    have HI8 := hid (HIr.out.grow hb)
    clear hb HIr HT p0 p1 p2 q0 q1 q2 q3 q4 q9 q10
    go_wp2_with (first | (go_at_call 14; refine (lives_any _).mono ?_; rintro e w9 ⟨rfl, hb⟩))
    refine bodyPost_ret (v := .bool true) (by simp [results, Try.results10, go_sem]) rfl ⟨rfl, HI8.out.be.trans (hb.mono (HI8.out.be).size)⟩
end Go.Proofs.Ythoofldinnfpiaa
