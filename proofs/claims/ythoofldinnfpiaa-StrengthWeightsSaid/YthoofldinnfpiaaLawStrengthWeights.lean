import Derived.Test.YthoofldinnfpiaaLW
import Derived.Test.YthoofldinnfpiaaPW
import Derived.Test.YthoofldinnfpiaaLP
import Derived.Test.YthoofldinnfpiaaFE
namespace Go.Proofs.Ythoofldinnfpiaa
open Go.RowKit Go.Proofs.YthoofldinnfpiaaW.PrintWords Go.Proofs.YthoofldinnfpiaaW.PrintLast Go.Proofs.YthoofldinnfpiaaW.PrintMore
open Q Go.Shelf
attribute [local go_sem] Oper.semAt_some wide_depth wide_fn
set_option linter.unusedVariables false
set_option linter.unusedSimpArgs false
theorem size33 : (Try.prog.info? 33).map (·.size) = some 21 := by kernel_rfl
theorem loadVar_ne (t : TypeId) (a : Addr) (h : ¬ t = 33) : loadVar t a = (do if ← isAgg t then pure (.agg (← loadCells a (← sizeOf t))) else load a) := rfl
attribute [-go_sem] loadVar
attribute [local go_sem] loadVar_ne
attribute [local go_sem] max2_int min2_int max_two min_two
def tfst (u : Value) : Value := match u with | .tuple xs => xs.getD 0 undef | _ => undef
def tsnd (u : Value) : Value := match u with | .tuple xs => xs.getD 1 undef | _ => undef
theorem tmod_bd (a : Int) : -1000 < Int.tmod a 1000 ∧ Int.tmod a 1000 < 1000 := by
  rcases Int.le_total 0 a with h | h
  · rw [Int.tmod_eq_emod_of_nonneg h]; omega
  · have := Int.neg_tmod (-a) 1000
    rw [Int.neg_neg] at this
    rw [this, Int.tmod_eq_emod_of_nonneg (by omega)]; omega
theorem tfst_two (a b : Value) : tfst (.tuple #[a, b]) = a := rfl
theorem tsnd_two (a b : Value) : tsnd (.tuple #[a, b]) = b := rfl
theorem heavy_exact (a : Int) (w : World) : Calls Try.prog 32 #[.int .i64 a] w fun e w' => e = .returned (.agg #[.int .i64 a, .int .i64 a]) ∧ Below w.heap.size w w' :=
  culletlaw05_exact.calls a a a w rfl
set_option maxRecDepth 100000 in
set_option maxHeartbeats 8000000 in
set_option pp.deepTerms true in
set_option pp.maxSteps 1000000 in
theorem strengthWeights_calls (A : Option Addr) (c : Nat) (l : List S82) (fl tg : Int) (A0 : Option Addr) (c0 : Nat) (l0 : List S29) (a1 a2 a3 a4 a5 a6 a7 a8 : Int) (A9 : Option Addr) (c9 : Nat) (l9 : List Int) (a10 a11 a12 a13 a14 a15 a16 a17 a18 : Int) (A19 : Option Addr) (c19 : Nat) (l19 : List Int) (A20 : Option Addr) (c20 : Nat) (l20 : List S118) (W : World)
    (hC : Kd.C k82 W A l.length l) (hl : l.length ≤ c) (hC0 : Kd.C k29 W A0 l0.length l0) (hl0 : l0.length ≤ c0) (hC9 : Kd.C (Kd.int .i64) W A9 l9.length l9) (hl9 : l9.length ≤ c9) (hC19 : Kd.C (Kd.int .i64) W A19 l19.length l19) (hl19 : l19.length ≤ c19) (hC20 : Kd.C k118 W A20 l20.length l20) (hl20 : l20.length ≤ c20)
    (wl : ∀ y ∈ l, W82 y) (w1 : W64 fl) (w2 : W64 tg)
    (wf : (∀ y ∈ l0, W29 y) ∧ (W64 a1 ∧ W64 a2 ∧ W64 a3 ∧ W64 a4) ∧ W64 a5 ∧ W64 a6 ∧ W64 a7 ∧ W64 a8 ∧ (∀ y ∈ l9, W64 y) ∧ W64 a10 ∧ W64 a11 ∧ W64 a12 ∧ W64 a13 ∧ W64 a14 ∧ W64 a15 ∧ W64 a16 ∧ W64 a17 ∧ W64 a18 ∧ (∀ y ∈ l19, W64 y) ∧ ∀ y ∈ l20, W118 y) :
    Calls Try.prog 12 #[.agg #[.slice A l.length c, .int .i64 fl, .int .i64 tg], .agg #[.slice A0 l0.length c0, .int .i64 a1, .int .i64 a2, .int .i64 a3, .int .i64 a4, .int .i64 a5, .int .i64 a6, .int .i64 a7, .int .i64 a8, .slice A9 l9.length c9, .int .i64 a10, .int .i64 a11, .int .i64 a12, .int .i64 a13, .int .i64 a14, .int .i64 a15, .int .i64 a16, .int .i64 a17, .int .i64 a18, .slice A19 l19.length c19, .slice A20 l20.length c20]] W fun e w' => e = .returned (.bool true) ∧ Below W.heap.size W w' := by
  have HB := Below.refl W.heap.size W
  obtain ⟨b, ⟨K, hK⟩, hw⟩ := wide05 l0 a1 a2 a3 a4 a5 a6 a7 a8 l9 a10 a11 a12 a13 a14 a15 a16 a17 a18 l19 l20
  have HW := hid (hK K (Nat.le_refl _))
  have HC := hid (And.intro hC (And.intro hl (And.intro hC0 (And.intro hl0 (And.intro hC9 (And.intro hl9 (And.intro hC19 (And.intro hl19 (And.intro hC20 hl20)))))))))
  have hu24 := Try.underlying24
  have hu33 := Try.underlying33
  have hu27 := Try.underlying27
  have hu29 := Try.underlying29
  clear hK hC hl hC0 hl0 hC9 hl9 hC19 hl19 hC20 hl20 wl w1 w2 wf
  go_enter Try.func12, Try.ntmps12
  go_wp2_with fail
  obtain ⟨hC, hl, hC0, hl0, hC9, hl9, hC19, hl19, hC20, hl20⟩ := HC.out
  have hbel := (HB.alloc (Nat.le_refl _) (.cells #[.slice A l.length c, .int .i64 fl, .int .i64 tg] 24)).alloc (by simp) (.cells #[.slice A0 l0.length c0, .int .i64 a1, .int .i64 a2, .int .i64 a3, .int .i64 a4, .int .i64 a5, .int .i64 a6, .int .i64 a7, .int .i64 a8, .slice A9 l9.length c9, .int .i64 a10, .int .i64 a11, .int .i64 a12, .int .i64 a13, .int .i64 a14, .int .i64 a15, .int .i64 a16, .int .i64 a17, .int .i64 a18, .slice A19 l19.length c19, .slice A20 l20.length c20] 33)
  have e0 := World.alloc_heap_new W (.cells #[.slice A l.length c, .int .i64 fl, .int .i64 tg] 24)
  have e1 := World.alloc_heap_new (W.alloc (.cells #[.slice A l.length c, .int .i64 fl, .int .i64 tg] 24)) (.cells #[.slice A0 l0.length c0, .int .i64 a1, .int .i64 a2, .int .i64 a3, .int .i64 a4, .int .i64 a5, .int .i64 a6, .int .i64 a7, .int .i64 a8, .slice A9 l9.length c9, .int .i64 a10, .int .i64 a11, .int .i64 a12, .int .i64 a13, .int .i64 a14, .int .i64 a15, .int .i64 a16, .int .i64 a17, .int .i64 a18, .slice A19 l19.length c19, .slice A20 l20.length c20] 33)
  have e0 := alloc_old (o' := .cells #[.slice A0 l0.length c0, .int .i64 a1, .int .i64 a2, .int .i64 a3, .int .i64 a4, .int .i64 a5, .int .i64 a6, .int .i64 a7, .int .i64 a8, .slice A9 l9.length c9, .int .i64 a10, .int .i64 a11, .int .i64 a12, .int .i64 a13, .int .i64 a14, .int .i64 a15, .int .i64 a16, .int .i64 a17, .int .i64 a18, .slice A19 l19.length c19, .slice A20 l20.length c20] 33) e0
  rw [World.size_alloc] at e1
  have hI : LawB W A c l fl tg A0 c0 l0 a1 a2 a3 a4 a5 a6 a7 a8 A9 c9 l9 a10 a11 a12 a13 a14 a15 a16 a17 a18 A19 c19 l19 A20 c20 l20 ((W.alloc (.cells #[.slice A l.length c, .int .i64 fl, .int .i64 tg] 24)).alloc (.cells #[.slice A0 l0.length c0, .int .i64 a1, .int .i64 a2, .int .i64 a3, .int .i64 a4, .int .i64 a5, .int .i64 a6, .int .i64 a7, .int .i64 a8, .slice A9 l9.length c9, .int .i64 a10, .int .i64 a11, .int .i64 a12, .int .i64 a13, .int .i64 a14, .int .i64 a15, .int .i64 a16, .int .i64 a17, .int .i64 a18, .slice A19 l19.length c19, .slice A20 l20.length c20] 33)) := ⟨e0, e1, hbel⟩
  generalize ((W.alloc (.cells #[.slice A l.length c, .int .i64 fl, .int .i64 tg] 24)).alloc (.cells #[.slice A0 l0.length c0, .int .i64 a1, .int .i64 a2, .int .i64 a3, .int .i64 a4, .int .i64 a5, .int .i64 a6, .int .i64 a7, .int .i64 a8, .slice A9 l9.length c9, .int .i64 a10, .int .i64 a11, .int .i64 a12, .int .i64 a13, .int .i64 a14, .int .i64 a15, .int .i64 a16, .int .i64 a17, .int .i64 a18, .slice A19 l19.length c19, .slice A20 l20.length c20] 33)) = W2 at *
  refine (great_any A c l fl tg _ (Kd.C_below hC hI.be) hl).mono ?_
  rintro e w1 ⟨rfl, hb⟩
  have HI1 := hid (hI.grow hb)
  clear hI hb e0 e1 hbel hC hl hC0 hl0 hC9 hl9 hC19 hl19 hC20 hl20 HB
  cases hg : decide ((l.length : Int) > 40) with
  | true =>
    go_wp2_with (first | (go_at_call 14; refine (lives_any _).mono ?_; rintro e w9 ⟨rfl, hb⟩))
    refine bodyPost_ret (v := .bool true) (by simp [results, Try.results12, go_sem]) rfl ⟨rfl, HI1.out.be.trans (hb.mono HI1.out.be.size)⟩
  | false =>
  have HG := hid hg
  clear hg
  have hld := run_loadVar_row (P := Try.prog) w1 (W.heap.size + 1) 33 33 #[.slice A0 l0.length c0, .int .i64 a1, .int .i64 a2, .int .i64 a3, .int .i64 a4, .int .i64 a5, .int .i64 a6, .int .i64 a7, .int .i64 a8, .slice A9 l9.length c9, .int .i64 a10, .int .i64 a11, .int .i64 a12, .int .i64 a13, .int .i64 a14, .int .i64 a15, .int .i64 a16, .int .i64 a17, .int .i64 a18, .slice A19 l19.length c19, .slice A20 l20.length c20] (0, 0) _ HI1.out.ha Try.underlying33 rfl size33
  go_wp2_with fail
  obtain ⟨hC, hl, hC0, hl0, hC9, hl9, hC19, hl19, hC20, hl20⟩ := HC.out
  have hbe := HI1.out.be
  refine (culletlaw05_Wide.calls K A0 c0 l0 a1 a2 a3 a4 a5 a6 a7 a8 A9 c9 l9 a10 a11 a12 a13 a14 a15 a16 a17 a18 A19 c19 l19 A20 c20 l20 b _ (Kd.C_below hC0 hbe) hl0 (Kd.C_below hC9 hbe) hl9 (Kd.C_below hC19 hbe) hl19 (Kd.C_below hC20 hbe) hl20 HW.out).mono ?_
  rintro e w3 ⟨rfl, hb⟩
  have HI3 := hid (HI1.out.grow hb)
  clear hb hbe hC hl hC0 hl0 hC9 hl9 hC19 hl19 hC20 hl20 hld HI1
  cases b with
  | true =>
    go_wp2_with (first | (go_at_call 14; refine (lives_any _).mono ?_; rintro e w9 ⟨rfl, hb⟩))
    refine bodyPost_ret (v := .bool true) (by simp [results, Try.results12, go_sem]) rfl ⟨rfl, HI3.out.be.trans (hb.mono HI3.out.be.size)⟩
  | false =>
  have p0 := blkCell HI3.out.hb 0
  have p1 := blkCell HI3.out.hb 1
  have p2 := blkCell HI3.out.hb 2
  have q0 := blkCell HI3.out.ha 0
  have q1 := blkCell HI3.out.ha 1
  have q2 := blkCell HI3.out.ha 2
  have q3 := blkCell HI3.out.ha 3
  have q4 := blkCell HI3.out.ha 4
  have q5 := blkCell HI3.out.ha 5
  simp at p0 p1 p2 q0 q1 q2 q3 q4 q5
  have hth := (hw rfl).1
  have hth9 := (hw rfl).2
  have hll : l.length ≤ 40 := by have := HG.out; simp at this; omega
  clear hw
  have HL := hid (And.intro hth (And.intro hll hth9))
  clear hth hll hth9
  go_wp2_with fail
  obtain ⟨hC, hl, hC0, hl0, hC9, hl9, hC19, hl19, hC20, hl20⟩ := HC.out
  refine (Lightest_any A c l fl tg a1 a2 a3 a4 _ (Kd.C_below hC HI3.out.be)).mono ?_
  rintro e w4 ⟨rfl, hb⟩
  have HI4 := hid (HI3.out.grow hb)
  clear hb hC hl hC0 hl0 hC9 hl9 hC19 hl19 hC20 hl20 p0 p1 p2 q0 q1 q2 q3 q4 q5 HI3
  have p0 := blkCell HI4.out.hb 0
  have p1 := blkCell HI4.out.hb 1
  have p2 := blkCell HI4.out.hb 2
  have q0 := blkCell HI4.out.ha 0
  have q1 := blkCell HI4.out.ha 1
  have q2 := blkCell HI4.out.ha 2
  have q3 := blkCell HI4.out.ha 3
  have q4 := blkCell HI4.out.ha 4
  have q5 := blkCell HI4.out.ha 5
  simp at p0 p1 p2 q0 q1 q2 q3 q4 q5
  go_wp2_with fail
  obtain ⟨hC, hl, hC0, hl0, hC9, hl9, hC19, hl19, hC20, hl20⟩ := HC.out
  refine (Needed_any A c l fl tg a1 a2 a3 a4 _ (Kd.C_below hC HI4.out.be)).mono ?_
  rintro e w5 ⟨v, rfl, hv, hb⟩
  have HI5 := hid (HI4.out.grow hb)
  clear hb hC hl hC0 hl0 hC9 hl9 hC19 hl19 hC20 hl20 p0 p1 p2 q0 q1 q2 q3 q4 q5 HI4
  by_cases hz : ¬ loadedOf l fl tg a1 a2 a3 a4 = 0
  · have hnr : neededRes l fl tg a1 a2 a3 a4 = ([], loadedOf l fl tg a1 a2 a3 a4) := by unfold neededRes; rw [if_neg hz]
    have hlr : lightestRes l fl tg a1 a2 a3 a4 = (0, loadedOf l fl tg a1 a2 a3 a4) := by unfold lightestRes; rw [if_neg hz]
    rw [hnr] at hv
    rw [hnr, hlr]
    obtain ⟨Ad, cd, rfl⟩ := Kd.R_slice hv
    clear hnr hlr hv
    generalize loadedOf l fl tg a1 a2 a3 a4 = ek at *
    have hzb : (ek != 0) = true := by simpa using hz
    go_wp2_with (first | (go_at_call 14; refine (lives_any _).mono ?_; rintro e w7 ⟨rfl, hb⟩))
    refine bodyPost_ret (v := .bool true) (by simp [results, Try.results12, go_sem]) rfl ⟨rfl, HI5.out.be.trans (hb.mono (HI5.out.be).size)⟩
  have hz' := Decidable.not_not.1 hz
  have hnr : neededRes l fl tg a1 a2 a3 a4 = (needOf l fl tg a1 a2 a3 a4, 0) := by unfold neededRes; rw [if_pos hz']
  have hlr : lightestRes l fl tg a1 a2 a3 a4 = (lightOf l fl tg a1 a2 a3 a4, 0) := by unfold lightestRes; rw [if_pos hz']
  rw [hnr] at hv
  rw [hnr, hlr]
  obtain ⟨Ad, cd, rfl⟩ := Kd.R_slice hv
  have hCn := (Kd.R_reads' hv).2.2
  have HZ := hid hz'
  clear hnr hlr hv hz hz'
  obtain ⟨nd, hnd⟩ : ∃ x, needOf l fl tg a1 a2 a3 a4 = x := ⟨_, rfl⟩
  obtain ⟨wt, hwt⟩ : ∃ x, lightOf l fl tg a1 a2 a3 a4 = x := ⟨_, rfl⟩
  simp only [hnd] at hCn
  simp only [hnd, hwt]
  have hnl : nd.length = l.length := by rw [← hnd, need_len]
  have HND := hid (And.intro hnd (And.intro hwt hnl))
  have HCN := hid hCn
  clear hnd hwt hnl hCn
  by_cases hw0 : wt = 0
  · have s1 : (wt == 0) = true := by simpa using hw0
    go_wp2_with (first | (go_at_call 14; refine (lives_any _).mono ?_; rintro e w7 ⟨rfl, hb⟩))
    refine bodyPost_ret (v := .bool true) (by simp [results, Try.results12, go_sem]) rfl ⟨rfl, HI5.out.be.trans (hb.mono (HI5.out.be).size)⟩
  have s1 : (wt == 0) = false := by simpa using hw0
  have hlight : (∀ k (h : k < nd.length), ¬ nd[k] = 0) ∧ 1 ≤ wt ∧ wt ≤ 100000 ∧ ∀ n, 1 ≤ n → n ≤ 100000 → lit l nd n = decide (wt ≤ n) := by
    obtain ⟨h1, h2, _⟩ := HND.out
    subst h1
    subst h2
    exact light_lit HZ.out hw0
  have HLI := hid hlight
  obtain ⟨_, hw1, hw2, _⟩ := hlight
  have hdv : -1000 < Int.tmod a5 1000 ∧ Int.tmod a5 1000 < 1000 := tmod_bd a5
  obtain ⟨dv, hdd⟩ : ∃ x, Int.tmod a5 1000 = x := ⟨_, rfl⟩
  rw [hdd] at hdv
  obtain ⟨dm, hdm⟩ : ∃ x, (if 0 < dv then dv else 0) = x := ⟨_, rfl⟩
  have hdm2 : 0 ≤ dm ∧ dm < 1000 := by rw [← hdm]; split <;> omega
  have r1 : wrap64 (wt + dm) = wt + dm := wrap64_id (by omega) (by omega)
  have r2 : wrap64 (wt - 1) = wt - 1 := wrap64_id (by omega) (by omega)
  have q5 := blkCell HI5.out.ha 5
  simp at q5
  have hbox : Hid (∀ X : World, X.heap[w5.heap.size]? = some (.cells #[.int .i64 wt, .int .i64 (wt + dm), .int .i64 (wt - 1)] 3 (0, 0)) → ∀ j : Nat, j < 3 → ∃ n, X.cell? ⟨w5.heap.size, j, none⟩ = some (.int .i64 n) ∧ (n = wt ∨ n = wt + dm ∨ n = wt - 1)) := hid fun X hX j hj => by
    have h := blkCell hX j
    rcases (show j = 0 ∨ j = 1 ∨ j = 2 by omega) with rfl | rfl | rfl
    · exact ⟨wt, by simpa using h, .inl rfl⟩
    · exact ⟨wt + dm, by simpa using h, .inr (.inl rfl)⟩
    · exact ⟨wt - 1, by simpa using h, .inr (.inr rfl)⟩
  have HD := hid hdm2
  have hw12 := hid (And.intro hw1 hw2)
  clear hdm2 hw1 hw2
  go_wp2
  clear q5 r1 r2 hdm hdv hdd s1
  have hn5 := hid (World.alloc_heap_new w5 (.cells #[.int .i64 wt, .int .i64 (wt + dm), .int .i64 (wt - 1)] 3))
  go_loopw [62] (fun v62 X => ∃ j : Nat, j ≤ 3 ∧ v62 = .int .i64 j ∧ Hid (Below w5.heap.size w5 X ∧ X.heap[w5.heap.size]? = some (.cells #[.int .i64 wt, .int .i64 (wt + dm), .int .i64 (wt - 1)] 3 (0, 0)))) (fun v62 _ => 3 - (intOf v62).toNat)
  case atStart => exact ⟨0, by omega, rfl, hid ⟨(Below.refl _ _).alloc (Nat.le_refl _) _, hn5.out⟩⟩
  case round =>
  obtain ⟨j, hj, rfl, HX⟩ := hrel
  by_cases hlt : j < 3
  · have hd : decide ((j : Int) < 3) = true := decide_eq_true (by omega)
    obtain ⟨n, nc, hn⟩ := hbox.out wr HX.out.2 j hlt
    have hnr : 0 ≤ n ∧ n ≤ 200000 := by have := HD.out; have := hw12.out; omega
    have HN := hid hnr
    clear hnr hn
    have rk : wrap64 ((j : Int) + 1) = ((j + 1 : Nat) : Int) := by rw [wrap64_id (by omega) (by omega)]; simp
    have HRK := hid rk
    by_cases g1 : n < 1
    · have d1 : decide (n < 1) = true := decide_eq_true g1
      clear rk
      go_wp2
      go_roundw
      case rel => exact ⟨j + 1, by omega, by go_num, HX⟩
      case measure => simp [intOf]; omega
    have d1 : decide (n < 1) = false := decide_eq_false g1
    by_cases g2 : 100000 < n
    · have d2 : decide (100000 < n) = true := decide_eq_true g2
      clear rk
      go_wp2
      go_roundw
      case rel => exact ⟨j + 1, by omega, by go_num, HX⟩
      case measure => simp [intOf]; omega
    have d2 : decide (100000 < n) = false := decide_eq_false g2
    have HG := hid (And.intro (show 1 ≤ n by omega) (show n ≤ 100000 by omega))
    rename World => Wk
    clear rk
    go_wp2_with fail
    clear nc d1 d2 hd
    have hIk := HI5.out.grow HX.out.1
    have hCk := Kd.C_below HC.out.1 hIk.be
    refine wp_flow7 [[], [], [1], [0, 2, 1], [3, 0, 2, 1], [4, 3, 0, 2, 1], [4, 3, 0, 2, 1], [5, 4, 3, 0, 2, 1], [6, 4, 3, 0, 2, 1, 7, 5]] 3 8
      (fun V => V.cell? ⟨W.heap.size, 0, none⟩ = some (.slice A l.length c) ∧ V.cell? ⟨W.heap.size, 1, none⟩ = some (.int .i64 fl) ∧ V.cell? ⟨W.heap.size, 2, none⟩ = some (.int .i64 tg) ∧ Below Wk.heap.size Wk V)
      (fun u V => ∃ At ct, u = .tuple #[.slice At (thW l n).length ct, .int .i64 0] ∧ Kd.C k29 V At (thW l n).length (thW l n) ∧ Below Wk.heap.size Wk V)
      { tmps := #[.agg #[.slice A l.length c, .int .i64 fl, .int .i64 tg], .agg #[.slice A0 l0.length c0, .int .i64 a1, .int .i64 a2, .int .i64 a3, .int .i64 a4, .int .i64 a5, .int .i64 a6, .int .i64 a7, .int .i64 a8, .slice A9 l9.length c9, .int .i64 a10, .int .i64 a11, .int .i64 a12, .int .i64 a13, .int .i64 a14, .int .i64 a15, .int .i64 a16, .int .i64 a17, .int .i64 a18, .slice A19 l19.length c19, .slice A20 l20.length c20], .pointer (some ⟨W.heap.size, 0, none⟩), .pointer (some ⟨(W.heap.size + 1), 0, none⟩), u4, .int .i64 wt, .int .i64 0, .slice Ad nd.length cd, .int .i64 0, undef, .int .i64 n, u11, u12, u13, u14, u15, u16, u17, u18, .agg #[.slice A l.length c, .int .i64 fl, .int .i64 tg], .bool false, .bool false, .agg #[.slice A0 l0.length c0, .int .i64 a1, .int .i64 a2, .int .i64 a3, .int .i64 a4, .int .i64 a5, .int .i64 a6, .int .i64 a7, .int .i64 a8, .slice A9 l9.length c9, .int .i64 a10, .int .i64 a11, .int .i64 a12, .int .i64 a13, .int .i64 a14, .int .i64 a15, .int .i64 a16, .int .i64 a17, .int .i64 a18, .slice A19 l19.length c19, .slice A20 l20.length c20], .bool false, .bool false, undef, .tuple #[.int .i64 wt, .int .i64 0], .agg #[.slice A l.length c, .int .i64 fl, .int .i64 tg], .pointer (some ⟨W.heap.size + 1, 1, none⟩), .agg #[.int .i64 a1, .int .i64 a2, .int .i64 a3, .int .i64 a4], .tuple #[.int .i64 wt, .int .i64 0], .int .i64 wt, .int .i64 0, .tuple #[.slice Ad nd.length cd, .int .i64 0], .agg #[.slice A l.length c, .int .i64 fl, .int .i64 tg], .pointer (some ⟨W.heap.size + 1, 1, none⟩), .agg #[.int .i64 a1, .int .i64 a2, .int .i64 a3, .int .i64 a4], .tuple #[.slice Ad nd.length cd, .int .i64 0], .slice Ad nd.length cd, .int .i64 0, .int .i64 0, .int .i64 0, .bool false, .int .i64 0, .bool false, .bool false, .int .i64 wt, .bool false, .bool false, undef, .int .i64 wt, .int .i64 wt, .pointer (some ⟨W.heap.size + 1, 5, none⟩), .pointer (some ⟨W.heap.size + 1, 5, none⟩), .int .i64 a5, .int .i64 dv, .int .i64 dm, .int .i64 (wrap64 (wt + dm)), .int .i64 wt, .int .i64 (wrap64 (wt - 1)), .slice (some ⟨w5.heap.size, 0, none⟩) 3 3, .int .i64 3, .int .i64 j, .bool true, .pointer (some ⟨w5.heap.size, j, none⟩), .int .i64 n, .int .i64 n, .bool false, .bool false, .int .i64 n, .bool false, .bool false, u72, .agg #[.slice A l.length c, .int .i64 fl, .int .i64 tg], .int .i64 n, .agg #[.int .i64 n, .int .i64 n], u76, u77, u78, u79, u80, u81, u82, u83, u84, u85, u86, u87, u88, u89, u90, u91, u92, u93, u94, u95, u96, u97, u98, u99, u100, u101, u102, u103, u104, u105, u106, u107, u108, u109, u110, u111, u112, u113, u114, u115, u116, u117, u118, u119, u120, u121, u122, u123, u124, u125, u126, u127, u128, u129, u130, u131, u132, u133, u134, u135, u136, u137, u138, u139, u140, u141, u142, u143, u144, u145, u146, u147, u148, u149, u150, undef], defers := [] }
      (fun u => { tmps := #[.agg #[.slice A l.length c, .int .i64 fl, .int .i64 tg], .agg #[.slice A0 l0.length c0, .int .i64 a1, .int .i64 a2, .int .i64 a3, .int .i64 a4, .int .i64 a5, .int .i64 a6, .int .i64 a7, .int .i64 a8, .slice A9 l9.length c9, .int .i64 a10, .int .i64 a11, .int .i64 a12, .int .i64 a13, .int .i64 a14, .int .i64 a15, .int .i64 a16, .int .i64 a17, .int .i64 a18, .slice A19 l19.length c19, .slice A20 l20.length c20], .pointer (some ⟨W.heap.size, 0, none⟩), .pointer (some ⟨(W.heap.size + 1), 0, none⟩), u4, .int .i64 wt, .int .i64 0, .slice Ad nd.length cd, .int .i64 0, undef, .int .i64 n, tfst u, u12, u13, u14, u15, u16, u17, u18, .agg #[.slice A l.length c, .int .i64 fl, .int .i64 tg], .bool false, .bool false, .agg #[.slice A0 l0.length c0, .int .i64 a1, .int .i64 a2, .int .i64 a3, .int .i64 a4, .int .i64 a5, .int .i64 a6, .int .i64 a7, .int .i64 a8, .slice A9 l9.length c9, .int .i64 a10, .int .i64 a11, .int .i64 a12, .int .i64 a13, .int .i64 a14, .int .i64 a15, .int .i64 a16, .int .i64 a17, .int .i64 a18, .slice A19 l19.length c19, .slice A20 l20.length c20], .bool false, .bool false, undef, .tuple #[.int .i64 wt, .int .i64 0], .agg #[.slice A l.length c, .int .i64 fl, .int .i64 tg], .pointer (some ⟨W.heap.size + 1, 1, none⟩), .agg #[.int .i64 a1, .int .i64 a2, .int .i64 a3, .int .i64 a4], .tuple #[.int .i64 wt, .int .i64 0], .int .i64 wt, .int .i64 0, .tuple #[.slice Ad nd.length cd, .int .i64 0], .agg #[.slice A l.length c, .int .i64 fl, .int .i64 tg], .pointer (some ⟨W.heap.size + 1, 1, none⟩), .agg #[.int .i64 a1, .int .i64 a2, .int .i64 a3, .int .i64 a4], .tuple #[.slice Ad nd.length cd, .int .i64 0], .slice Ad nd.length cd, .int .i64 0, .int .i64 0, .int .i64 0, .bool false, .int .i64 0, .bool false, .bool false, .int .i64 wt, .bool false, .bool false, undef, .int .i64 wt, .int .i64 wt, .pointer (some ⟨W.heap.size + 1, 5, none⟩), .pointer (some ⟨W.heap.size + 1, 5, none⟩), .int .i64 a5, .int .i64 dv, .int .i64 dm, .int .i64 (wrap64 (wt + dm)), .int .i64 wt, .int .i64 (wrap64 (wt - 1)), .slice (some ⟨w5.heap.size, 0, none⟩) 3 3, .int .i64 3, .int .i64 j, .bool true, .pointer (some ⟨w5.heap.size, j, none⟩), .int .i64 n, .int .i64 n, .bool false, .bool false, .int .i64 n, .bool false, .bool false, u, .agg #[.slice A l.length c, .int .i64 fl, .int .i64 tg], .int .i64 n, .agg #[.int .i64 n, .int .i64 n], u, tfst u, tsnd u, u79, u80, u81, u82, u83, u84, u85, u86, u87, u88, u89, u90, u91, u92, u93, u94, u95, u96, u97, u98, u99, u100, u101, u102, u103, u104, u105, u106, u107, u108, u109, u110, u111, u112, u113, u114, u115, u116, u117, u118, u119, u120, u121, u122, u123, u124, u125, u126, u127, u128, u129, u130, u131, u132, u133, u134, u135, u136, u137, u138, u139, u140, u141, u142, u143, u144, u145, u146, u147, u148, u149, u150, undef], defers := [] })
      (fun u => [(72, u), (77, tfst u), (78, tsnd u), (11, tfst u)])
      mixed (by kernel_rfl) rfl (by kernel_rfl) (Ahead.of3 73 76 rfl rfl (by kernel_rfl) rfl rfl) ?_ (AllFlow.ops rfl ?_) ?_ (fun u => rfl) (fun u => rfl) (fun u => rfl) (fun u => rfl) ?_ rfl ?_
    · exact ⟨blkCell hIk.hb 0, blkCell hIk.hb 1, blkCell hIk.hb 2, (Below.refl _ _).drew⟩
    · refine ⟨?_, ?_, ?_, trivial⟩
      · exact .val 73 _ rfl rfl fun V ⟨y0, y1, y2, hB_⟩ => by go_simp
      · exact .val 74 _ rfl rfl fun V ⟨y0, y1, y2, hB_⟩ => by go_simp
      · refine .call 75 (.agg #[.int .i64 n, .int .i64 n]) 32 #[.int .i64 n] rfl rfl (fun V ⟨y0, y1, y2, hB_⟩ => by go_simp) fun V ⟨y0, y1, y2, hB_⟩ => ?_
        refine (heavy_exact n _).mono ?_
        rintro e w' ⟨rfl, hb⟩
        exact ⟨rfl, cell_grow y0 hb, cell_grow y1 hb, cell_grow y2 hb, hB_.trans (hb.mono hB_.size)⟩
    · refine ⟨rfl, fun V ⟨y0, y1, y2, hB_⟩ => ⟨15, #[.agg #[.slice A l.length c, .int .i64 fl, .int .i64 tg], .agg #[.int .i64 n, .int .i64 n]], V, by go_simp, ?_⟩⟩
      refine (Thickness_any A c l fl tg n n V (Kd.C_below hCk hB_)).mono ?_
      rintro e w' ⟨v0, rfl, hv, hb⟩
      rw [thickOf_ok HZ.out HG.out.1 HG.out.2] at hv
      rw [thickOf_ok HZ.out HG.out.1 HG.out.2]
      obtain ⟨At, ct, rfl, hCt, _⟩ := row_open hv
      exact ⟨_, rfl, At, ct, rfl, hCt, hB_.trans (hb.mono hB_.size)⟩
    · intro u i o h1 h2 ho
      rcases (show i = 4 ∨ i = 5 ∨ i = 6 ∨ i = 7 by omega) with rfl | rfl | rfl | rfl
      · obtain rfl : _ = o := Option.some.inj ho
        exact .val 72 _ rfl rfl fun V ⟨At, ct, hu, _⟩ => by go_simp
      · obtain rfl : _ = o := Option.some.inj ho
        exact .val 77 _ rfl rfl fun V ⟨At, ct, hu, _⟩ => by subst hu; go_simp; rfl
      · obtain rfl : _ = o := Option.some.inj ho
        exact .val 78 _ rfl rfl fun V ⟨At, ct, hu, _⟩ => by subst hu; go_simp; rfl
      · obtain rfl : _ = o := Option.some.inj ho
        exact .val 11 _ rfl rfl fun V ⟨At, ct, hu, _⟩ => by go_simp
    · rintro u W13 ⟨At, ct, rfl, hCt, hB_⟩
      have HCT := hid hCt
      have HB13 := hid (HX.out.1.trans (hB_.mono HX.out.1.size))
      have HNS := hid (heap_grow HX.out.2 hB_)
      have kk : (((thW l n).length : Int) != (nd.length : Int)) = false := by have := HND.out.2.2; simp [thW_len]; omega
      clear hCt hB_ hIk hCk
      simp only [tfst_two, tsnd_two]
      go_wp2
      clear kk
      go_loopw [13, 14, 15] (fun v13 v14 v15 Y => ∃ k : Nat, k ≤ nd.length ∧ v13 = .bool (((l.zip nd).take k).all (litAt n)) ∧ v14 = .bool ((l.take k).all (mayAt n)) ∧ v15 = .int .i64 k ∧ Hid (Below W13.heap.size W13 Y)) (fun _ _ v15 _ => nd.length - (intOf v15).toNat)
      case atStart => exact ⟨0, by omega, by simp, by simp, rfl, hid (Below.refl _ _)⟩
      case round =>
      obtain ⟨k, hk, rfl, rfl, rfl, HY⟩ := hrel
      obtain ⟨en, hen⟩ : ∃ b, ((l.zip nd).take k).all (litAt n) = b := ⟨_, rfl⟩
      obtain ⟨my, hmy⟩ : ∃ b, (l.take k).all (mayAt n) = b := ⟨_, rfl⟩
      rw [hen, hmy]
      have HEN := hid (And.intro hen hmy)
      clear hen hmy
      have hBk := HB13.out.trans (HY.out.mono HB13.out.size)
      have hlen := thW_len l n
      by_cases hlk : k < nd.length
      · have hd : decide ((k : Int) < (nd.length : Int)) = true := decide_eq_true (by omega)
        have hd2 : decide ((k : Int) < ((thW l n).length : Int)) = true := decide_eq_true (by have := HND.out.2.2; omega)
        have hkl : k < l.length := by have := HND.out.2.2; omega
        have hkt : k < (thW l n).length := by omega
        obtain ⟨an, hna, n0⟩ := Kd.at_int (Kd.C_below HCN.out hBk) k (by omega) (by omega)
        rw [rd_int hlk] at n0
        have hs7 := at_T29 (Kd.C_below HCT.out HY.out) k (by omega) (by omega)
        rw [show rd_T29 (thW l n) (k : Int) = ⟨thickLo l[k] n, thickHi l[k] n⟩ by simp [rd_T29, List.getD, hkt, thW, hkl]] at hs7
        simp only [Int.toNat_natCast] at n0 hs7
        obtain ⟨ta, hta, s0, s1⟩ := hs7
        subst hna
        subst hta
        obtain ⟨lo, hlo⟩ : ∃ x, thickLo l[k] n = x := ⟨_, rfl⟩
        obtain ⟨hi, hhi⟩ : ∃ x, thickHi l[k] n = x := ⟨_, rfl⟩
        rw [hlo] at s0
        rw [hhi] at s1
        have HLO := hid (And.intro hlo hhi)
        have hsn : ((l.zip nd).take (k + 1)).all (litAt n) = (en && !(decide (lo < nd[k]))) := by
          rw [List.take_succ_eq_append_getElem (by rw [List.length_zip]; omega), List.all_append, HEN.out.1]
          simp [litAt, hlo]
        have hsm : (l.take (k + 1)).all (mayAt n) = (my && (decide (1 ≤ lo) && decide (hi ≤ 2000))) := by
          rw [List.take_succ_eq_append_getElem hkl, List.all_append, HEN.out.2]
          simp [mayAt, hlo, hhi]
        have HSN := hid (And.intro hsn hsm)
        have rk : wrap64 ((k : Int) + 1) = ((k + 1 : Nat) : Int) := by rw [wrap64_id (by omega) (by have := HL.out.2.1; omega)]; simp
        have HRK2 := hid rk
        clear hlo hhi hsn hsm rk hBk hlen
        cases en with
        | false =>
          cases my with
          | false =>
            go_wp2_with fail
            refine wp_flow [[], [0], [1, 0], [1, 0], [2, 1, 0, 3], [4, 2, 1, 0, 3], [5, 4, 2, 1, 0, 3], [1, 0], [1, 0], [7, 1, 0, 8], [9, 7, 1, 0, 8], [6, 5, 4, 2, 1, 0, 3, 10, 9, 7, 8], [1, 0, 11, 6, 5, 4, 2, 3, 10, 9, 7, 8], [12, 1, 0, 11, 6, 5, 4, 2, 3, 10, 9, 7, 8]] 13
              (fun V => V.cell? (ta.add (k * 2)) = some (.int .i64 lo) ∧ V.cell? ⟨(ta.add (k * 2)).block, (ta.add (k * 2)).off + 1, none⟩ = some (.int .i64 hi) ∧ V.cell? (an.add k) = some (.int .i64 nd[k]) ∧ Below wr.heap.size wr V)
              { tmps := #[.agg #[.slice A l.length c, .int .i64 fl, .int .i64 tg], .agg #[.slice A0 l0.length c0, .int .i64 a1, .int .i64 a2, .int .i64 a3, .int .i64 a4, .int .i64 a5, .int .i64 a6, .int .i64 a7, .int .i64 a8, .slice A9 l9.length c9, .int .i64 a10, .int .i64 a11, .int .i64 a12, .int .i64 a13, .int .i64 a14, .int .i64 a15, .int .i64 a16, .int .i64 a17, .int .i64 a18, .slice A19 l19.length c19, .slice A20 l20.length c20], .pointer (some ⟨W.heap.size, 0, none⟩), .pointer (some ⟨W.heap.size + 1, 0, none⟩), u4, .int .i64 wt, .int .i64 0, .slice (some an) nd.length cd, .int .i64 0, undef, .int .i64 n, .slice (some ta) (thW l n).length ct, .int .i64 0, .bool false, .bool false, .int .i64 k, u16, u17, u18, .agg #[.slice A l.length c, .int .i64 fl, .int .i64 tg], .bool false, .bool false, .agg #[.slice A0 l0.length c0, .int .i64 a1, .int .i64 a2, .int .i64 a3, .int .i64 a4, .int .i64 a5, .int .i64 a6, .int .i64 a7, .int .i64 a8, .slice A9 l9.length c9, .int .i64 a10, .int .i64 a11, .int .i64 a12, .int .i64 a13, .int .i64 a14, .int .i64 a15, .int .i64 a16, .int .i64 a17, .int .i64 a18, .slice A19 l19.length c19, .slice A20 l20.length c20], .bool false, .bool false, undef, .tuple #[.int .i64 wt, .int .i64 0], .agg #[.slice A l.length c, .int .i64 fl, .int .i64 tg], .pointer (some ⟨W.heap.size + 1, 1, none⟩), .agg #[.int .i64 a1, .int .i64 a2, .int .i64 a3, .int .i64 a4], .tuple #[.int .i64 wt, .int .i64 0], .int .i64 wt, .int .i64 0, .tuple #[.slice (some an) nd.length cd, .int .i64 0], .agg #[.slice A l.length c, .int .i64 fl, .int .i64 tg], .pointer (some ⟨W.heap.size + 1, 1, none⟩), .agg #[.int .i64 a1, .int .i64 a2, .int .i64 a3, .int .i64 a4], .tuple #[.slice (some an) nd.length cd, .int .i64 0], .slice (some an) nd.length cd, .int .i64 0, .int .i64 0, .int .i64 0, .bool false, .int .i64 0, .bool false, .bool false, .int .i64 wt, .bool false, .bool false, undef, .int .i64 wt, .int .i64 wt, .pointer (some ⟨W.heap.size + 1, 5, none⟩), .pointer (some ⟨W.heap.size + 1, 5, none⟩), .int .i64 a5, .int .i64 dv, .int .i64 dm, .int .i64 (wrap64 (wt + dm)), .int .i64 wt, .int .i64 (wrap64 (wt - 1)), .slice (some ⟨w5.heap.size, 0, none⟩) 3 3, .int .i64 3, .int .i64 j, .bool true, .pointer (some ⟨w5.heap.size, j, none⟩), .int .i64 n, .int .i64 n, .bool false, .bool false, .int .i64 n, .bool false, .bool false, .tuple #[.slice (some ta) (thW l n).length ct, .int .i64 0], .agg #[.slice A l.length c, .int .i64 fl, .int .i64 tg], .int .i64 n, .agg #[.int .i64 n, .int .i64 n], .tuple #[.slice (some ta) (thW l n).length ct, .int .i64 0], .slice (some ta) (thW l n).length ct, .int .i64 0, .int .i64 0, .bool false, .bool false, .slice (some ta) (thW l n).length ct, .int .i64 (thW l n).length, .slice (some an) nd.length cd, .int .i64 nd.length, .bool false, .bool false, .int .i64 k, .slice (some ta) (thW l n).length ct, .int .i64 (thW l n).length, .bool true, u92, u93, .bool false, .bool false, undef, undef, undef, undef, undef, undef, undef, undef, undef, undef, .bool false, u107, u108, u109, u110, u111, u112, u113, u114, u115, u116, u117, u118, u119, u120, u121, u122, u123, u124, u125, u126, u127, u128, u129, u130, u131, u132, u133, u134, u135, u136, u137, u138, u139, u140, u141, u142, u143, u144, u145, u146, u147, u148, u149, u150, undef], defers := [] }
              mixed (by kernel_rfl) rfl (Ahead.of3 94 107 rfl rfl (by kernel_rfl) rfl rfl) ?_ (AllFlow.ops rfl ?_) rfl ?_
            · exact ⟨s0, s1, n0, (Below.refl _ _).drew⟩
            · refine ⟨?_, ?_, ?_, ?_, ?_, ?_, ?_, ?_, ?_, ?_, ?_, ?_, ?_, trivial⟩
              · exact .val 94 _ rfl rfl fun V ⟨x0, x1, x2, hB_⟩ => by go_simp <;> exact IntWalk.i64_left _
              · exact .val 95 _ rfl rfl fun V ⟨x0, x1, x2, hB_⟩ => by go_simp <;> exact IntWalk.i64_left _
              · exact .off 96 rfl rfl
              · exact .off 97 rfl rfl
              · exact .off 98 rfl rfl
              · exact .off 99 rfl rfl
              · exact .off 100 rfl rfl
              · exact .off 101 rfl rfl
              · exact .off 102 rfl rfl
              · exact .off 103 rfl rfl
              · exact .off 104 rfl rfl
              · exact .off 105 rfl rfl
              · exact .val 106 _ rfl rfl fun V ⟨x0, x1, x2, hB_⟩ => by go_simp <;> exact IntWalk.i64_left _
            · rintro W20 ⟨x0, x1, x2, hB_⟩
              have HYn := hid (HY.out.trans (hB_.mono HY.out.size))
              clear hB_ s0 s1 n0
              go_wp2
              simp only [HRK2.out]
              go_roundw
              case rel => exact ⟨k + 1, by omega, by rw [HSN.out.1]; simp [], by rw [HSN.out.2]; simp [], rfl, HYn⟩
              case measure => simp [intOf]; omega
          | true =>
            go_wp2_with fail
            refine wp_flow [[], [0], [1, 0], [1, 0], [2, 1, 0, 3], [4, 2, 1, 0, 3], [5, 4, 2, 1, 0, 3], [1, 0], [1, 0], [7, 1, 0, 8], [9, 7, 1, 0, 8], [6, 5, 4, 2, 1, 0, 3, 10, 9, 7, 8], [1, 0, 11, 6, 5, 4, 2, 3, 10, 9, 7, 8], [12, 1, 0, 11, 6, 5, 4, 2, 3, 10, 9, 7, 8]] 13
              (fun V => V.cell? (ta.add (k * 2)) = some (.int .i64 lo) ∧ V.cell? ⟨(ta.add (k * 2)).block, (ta.add (k * 2)).off + 1, none⟩ = some (.int .i64 hi) ∧ V.cell? (an.add k) = some (.int .i64 nd[k]) ∧ Below wr.heap.size wr V)
              { tmps := #[.agg #[.slice A l.length c, .int .i64 fl, .int .i64 tg], .agg #[.slice A0 l0.length c0, .int .i64 a1, .int .i64 a2, .int .i64 a3, .int .i64 a4, .int .i64 a5, .int .i64 a6, .int .i64 a7, .int .i64 a8, .slice A9 l9.length c9, .int .i64 a10, .int .i64 a11, .int .i64 a12, .int .i64 a13, .int .i64 a14, .int .i64 a15, .int .i64 a16, .int .i64 a17, .int .i64 a18, .slice A19 l19.length c19, .slice A20 l20.length c20], .pointer (some ⟨W.heap.size, 0, none⟩), .pointer (some ⟨W.heap.size + 1, 0, none⟩), u4, .int .i64 wt, .int .i64 0, .slice (some an) nd.length cd, .int .i64 0, undef, .int .i64 n, .slice (some ta) (thW l n).length ct, .int .i64 0, .bool false, .bool true, .int .i64 k, u16, u17, u18, .agg #[.slice A l.length c, .int .i64 fl, .int .i64 tg], .bool false, .bool false, .agg #[.slice A0 l0.length c0, .int .i64 a1, .int .i64 a2, .int .i64 a3, .int .i64 a4, .int .i64 a5, .int .i64 a6, .int .i64 a7, .int .i64 a8, .slice A9 l9.length c9, .int .i64 a10, .int .i64 a11, .int .i64 a12, .int .i64 a13, .int .i64 a14, .int .i64 a15, .int .i64 a16, .int .i64 a17, .int .i64 a18, .slice A19 l19.length c19, .slice A20 l20.length c20], .bool false, .bool false, undef, .tuple #[.int .i64 wt, .int .i64 0], .agg #[.slice A l.length c, .int .i64 fl, .int .i64 tg], .pointer (some ⟨W.heap.size + 1, 1, none⟩), .agg #[.int .i64 a1, .int .i64 a2, .int .i64 a3, .int .i64 a4], .tuple #[.int .i64 wt, .int .i64 0], .int .i64 wt, .int .i64 0, .tuple #[.slice (some an) nd.length cd, .int .i64 0], .agg #[.slice A l.length c, .int .i64 fl, .int .i64 tg], .pointer (some ⟨W.heap.size + 1, 1, none⟩), .agg #[.int .i64 a1, .int .i64 a2, .int .i64 a3, .int .i64 a4], .tuple #[.slice (some an) nd.length cd, .int .i64 0], .slice (some an) nd.length cd, .int .i64 0, .int .i64 0, .int .i64 0, .bool false, .int .i64 0, .bool false, .bool false, .int .i64 wt, .bool false, .bool false, undef, .int .i64 wt, .int .i64 wt, .pointer (some ⟨W.heap.size + 1, 5, none⟩), .pointer (some ⟨W.heap.size + 1, 5, none⟩), .int .i64 a5, .int .i64 dv, .int .i64 dm, .int .i64 (wrap64 (wt + dm)), .int .i64 wt, .int .i64 (wrap64 (wt - 1)), .slice (some ⟨w5.heap.size, 0, none⟩) 3 3, .int .i64 3, .int .i64 j, .bool true, .pointer (some ⟨w5.heap.size, j, none⟩), .int .i64 n, .int .i64 n, .bool false, .bool false, .int .i64 n, .bool false, .bool false, .tuple #[.slice (some ta) (thW l n).length ct, .int .i64 0], .agg #[.slice A l.length c, .int .i64 fl, .int .i64 tg], .int .i64 n, .agg #[.int .i64 n, .int .i64 n], .tuple #[.slice (some ta) (thW l n).length ct, .int .i64 0], .slice (some ta) (thW l n).length ct, .int .i64 0, .int .i64 0, .bool false, .bool false, .slice (some ta) (thW l n).length ct, .int .i64 (thW l n).length, .slice (some an) nd.length cd, .int .i64 nd.length, .bool false, .bool false, .int .i64 k, .slice (some ta) (thW l n).length ct, .int .i64 (thW l n).length, .bool true, u92, u93, .bool false, .bool false, undef, undef, undef, undef, undef, undef, undef, undef, undef, undef, .bool false, u107, u108, u109, u110, u111, u112, u113, u114, u115, u116, u117, u118, u119, u120, u121, u122, u123, u124, u125, u126, u127, u128, u129, u130, u131, u132, u133, u134, u135, u136, u137, u138, u139, u140, u141, u142, u143, u144, u145, u146, u147, u148, u149, u150, undef], defers := [] }
              mixed (by kernel_rfl) rfl (Ahead.of3 94 107 rfl rfl (by kernel_rfl) rfl rfl) ?_ (AllFlow.ops rfl ?_) rfl ?_
            · exact ⟨s0, s1, n0, (Below.refl _ _).drew⟩
            · refine ⟨?_, ?_, ?_, ?_, ?_, ?_, ?_, ?_, ?_, ?_, ?_, ?_, ?_, trivial⟩
              · exact .val 94 _ rfl rfl fun V ⟨x0, x1, x2, hB_⟩ => by go_simp <;> exact IntWalk.i64_left _
              · exact .val 95 _ rfl rfl fun V ⟨x0, x1, x2, hB_⟩ => by go_simp <;> exact IntWalk.i64_left _
              · exact .off 96 rfl rfl
              · exact .off 97 rfl rfl
              · exact .off 98 rfl rfl
              · exact .off 99 rfl rfl
              · exact .off 100 rfl rfl
              · exact .off 101 rfl rfl
              · exact .off 102 rfl rfl
              · exact .off 103 rfl rfl
              · exact .off 104 rfl rfl
              · exact .off 105 rfl rfl
              · exact .val 106 _ rfl rfl fun V ⟨x0, x1, x2, hB_⟩ => by go_simp <;> exact IntWalk.i64_left _
            · rintro W20 ⟨x0, x1, x2, hB_⟩
              have HYn := hid (HY.out.trans (hB_.mono HY.out.size))
              clear hB_ s0 s1 n0
              by_cases g3 : 1 ≤ lo
              · have d3 : decide (1 ≤ lo) = true := decide_eq_true g3
                by_cases g4 : hi ≤ 2000
                · have d4 : decide (hi ≤ 2000) = true := decide_eq_true g4
                  go_wp2
                  simp only [HRK2.out]
                  go_roundw
                  case rel => exact ⟨k + 1, by omega, by rw [HSN.out.1]; simp [], by rw [HSN.out.2]; simp [g3, g4], rfl, HYn⟩
                  case measure => simp [intOf]; omega
                · have d4 : decide (hi ≤ 2000) = false := decide_eq_false g4
                  go_wp2
                  simp only [HRK2.out]
                  go_roundw
                  case rel => exact ⟨k + 1, by omega, by rw [HSN.out.1]; simp [], by rw [HSN.out.2]; simp [show ¬ hi ≤ 2000 from g4], rfl, HYn⟩
                  case measure => simp [intOf]; omega
              · have d3 : decide (1 ≤ lo) = false := decide_eq_false g3
                go_wp2
                simp only [HRK2.out]
                go_roundw
                case rel => exact ⟨k + 1, by omega, by rw [HSN.out.1]; simp [], by rw [HSN.out.2]; simp [show ¬ 1 ≤ lo from g3], rfl, HYn⟩
                case measure => simp [intOf]; omega
        | true =>
          by_cases g2 : nd[k] ≤ lo
          · have d2 : decide (nd[k] ≤ lo) = true := decide_eq_true g2
            cases my with
            | false =>
              go_wp2_with fail
              refine wp_flow [[], [0], [1, 0], [1, 0], [2, 1, 0, 3], [4, 2, 1, 0, 3], [5, 4, 2, 1, 0, 3], [1, 0], [1, 0], [7, 1, 0, 8], [9, 7, 1, 0, 8], [6, 5, 4, 2, 1, 0, 3, 10, 9, 7, 8], [1, 0, 11, 6, 5, 4, 2, 3, 10, 9, 7, 8], [12, 1, 0, 11, 6, 5, 4, 2, 3, 10, 9, 7, 8]] 13
                (fun V => V.cell? (ta.add (k * 2)) = some (.int .i64 lo) ∧ V.cell? ⟨(ta.add (k * 2)).block, (ta.add (k * 2)).off + 1, none⟩ = some (.int .i64 hi) ∧ V.cell? (an.add k) = some (.int .i64 nd[k]) ∧ Below wr.heap.size wr V)
                { tmps := #[.agg #[.slice A l.length c, .int .i64 fl, .int .i64 tg], .agg #[.slice A0 l0.length c0, .int .i64 a1, .int .i64 a2, .int .i64 a3, .int .i64 a4, .int .i64 a5, .int .i64 a6, .int .i64 a7, .int .i64 a8, .slice A9 l9.length c9, .int .i64 a10, .int .i64 a11, .int .i64 a12, .int .i64 a13, .int .i64 a14, .int .i64 a15, .int .i64 a16, .int .i64 a17, .int .i64 a18, .slice A19 l19.length c19, .slice A20 l20.length c20], .pointer (some ⟨W.heap.size, 0, none⟩), .pointer (some ⟨W.heap.size + 1, 0, none⟩), u4, .int .i64 wt, .int .i64 0, .slice (some an) nd.length cd, .int .i64 0, undef, .int .i64 n, .slice (some ta) (thW l n).length ct, .int .i64 0, .bool true, .bool false, .int .i64 k, u16, u17, u18, .agg #[.slice A l.length c, .int .i64 fl, .int .i64 tg], .bool false, .bool false, .agg #[.slice A0 l0.length c0, .int .i64 a1, .int .i64 a2, .int .i64 a3, .int .i64 a4, .int .i64 a5, .int .i64 a6, .int .i64 a7, .int .i64 a8, .slice A9 l9.length c9, .int .i64 a10, .int .i64 a11, .int .i64 a12, .int .i64 a13, .int .i64 a14, .int .i64 a15, .int .i64 a16, .int .i64 a17, .int .i64 a18, .slice A19 l19.length c19, .slice A20 l20.length c20], .bool false, .bool false, undef, .tuple #[.int .i64 wt, .int .i64 0], .agg #[.slice A l.length c, .int .i64 fl, .int .i64 tg], .pointer (some ⟨W.heap.size + 1, 1, none⟩), .agg #[.int .i64 a1, .int .i64 a2, .int .i64 a3, .int .i64 a4], .tuple #[.int .i64 wt, .int .i64 0], .int .i64 wt, .int .i64 0, .tuple #[.slice (some an) nd.length cd, .int .i64 0], .agg #[.slice A l.length c, .int .i64 fl, .int .i64 tg], .pointer (some ⟨W.heap.size + 1, 1, none⟩), .agg #[.int .i64 a1, .int .i64 a2, .int .i64 a3, .int .i64 a4], .tuple #[.slice (some an) nd.length cd, .int .i64 0], .slice (some an) nd.length cd, .int .i64 0, .int .i64 0, .int .i64 0, .bool false, .int .i64 0, .bool false, .bool false, .int .i64 wt, .bool false, .bool false, undef, .int .i64 wt, .int .i64 wt, .pointer (some ⟨W.heap.size + 1, 5, none⟩), .pointer (some ⟨W.heap.size + 1, 5, none⟩), .int .i64 a5, .int .i64 dv, .int .i64 dm, .int .i64 (wrap64 (wt + dm)), .int .i64 wt, .int .i64 (wrap64 (wt - 1)), .slice (some ⟨w5.heap.size, 0, none⟩) 3 3, .int .i64 3, .int .i64 j, .bool true, .pointer (some ⟨w5.heap.size, j, none⟩), .int .i64 n, .int .i64 n, .bool false, .bool false, .int .i64 n, .bool false, .bool false, .tuple #[.slice (some ta) (thW l n).length ct, .int .i64 0], .agg #[.slice A l.length c, .int .i64 fl, .int .i64 tg], .int .i64 n, .agg #[.int .i64 n, .int .i64 n], .tuple #[.slice (some ta) (thW l n).length ct, .int .i64 0], .slice (some ta) (thW l n).length ct, .int .i64 0, .int .i64 0, .bool false, .bool false, .slice (some ta) (thW l n).length ct, .int .i64 (thW l n).length, .slice (some an) nd.length cd, .int .i64 nd.length, .bool false, .bool false, .int .i64 k, .slice (some ta) (thW l n).length ct, .int .i64 (thW l n).length, .bool true, u92, u93, .bool true, .bool true, .slice (some ta) (thW l n).length ct, .int .i64 k, .pointer (some (ta.add (k * 2))), .pointer (some (ta.add (k * 2))), .int .i64 lo, .slice (some an) nd.length cd, .int .i64 k, .pointer (some (an.add k)), .int .i64 (nd[k]), .bool true, .bool true, u107, u108, u109, u110, u111, u112, u113, u114, u115, u116, u117, u118, u119, u120, u121, u122, u123, u124, u125, u126, u127, u128, u129, u130, u131, u132, u133, u134, u135, u136, u137, u138, u139, u140, u141, u142, u143, u144, u145, u146, u147, u148, u149, u150, undef], defers := [] }
                mixed (by kernel_rfl) rfl (Ahead.of3 94 107 rfl rfl (by kernel_rfl) rfl rfl) ?_ (AllFlow.ops rfl ?_) rfl ?_
              · exact ⟨s0, s1, n0, (Below.refl _ _).drew⟩
              · refine ⟨?_, ?_, ?_, ?_, ?_, ?_, ?_, ?_, ?_, ?_, ?_, ?_, ?_, trivial⟩
                · exact .val 94 _ rfl rfl fun V ⟨x0, x1, x2, hB_⟩ => by go_simp <;> exact IntWalk.i64_left _
                · exact .val 95 _ rfl rfl fun V ⟨x0, x1, x2, hB_⟩ => by go_simp <;> exact IntWalk.i64_left _
                · exact .val 96 _ rfl rfl fun V ⟨x0, x1, x2, hB_⟩ => by go_simp <;> exact IntWalk.i64_left _
                · exact .val 97 _ rfl rfl fun V ⟨x0, x1, x2, hB_⟩ => by go_simp <;> exact IntWalk.i64_left _
                · exact .val 98 _ rfl rfl fun V ⟨x0, x1, x2, hB_⟩ => by go_simp <;> exact IntWalk.i64_left _
                · exact .val 99 _ rfl rfl fun V ⟨x0, x1, x2, hB_⟩ => by go_simp <;> exact IntWalk.i64_left _
                · exact .val 100 _ rfl rfl fun V ⟨x0, x1, x2, hB_⟩ => by go_simp <;> exact IntWalk.i64_left _
                · exact .val 101 _ rfl rfl fun V ⟨x0, x1, x2, hB_⟩ => by go_simp <;> exact IntWalk.i64_left _
                · exact .val 102 _ rfl rfl fun V ⟨x0, x1, x2, hB_⟩ => by go_simp <;> exact IntWalk.i64_left _
                · exact .val 103 _ rfl rfl fun V ⟨x0, x1, x2, hB_⟩ => by go_simp <;> exact IntWalk.i64_left _
                · exact .val 104 _ rfl rfl fun V ⟨x0, x1, x2, hB_⟩ => by go_simp <;> exact IntWalk.i64_left _
                · exact .val 105 _ rfl rfl fun V ⟨x0, x1, x2, hB_⟩ => by go_simp <;> exact IntWalk.i64_left _
                · exact .val 106 _ rfl rfl fun V ⟨x0, x1, x2, hB_⟩ => by go_simp <;> exact IntWalk.i64_left _
              · rintro W20 ⟨x0, x1, x2, hB_⟩
                have HYn := hid (HY.out.trans (hB_.mono HY.out.size))
                clear hB_ s0 s1 n0
                go_wp2
                simp only [HRK2.out]
                go_roundw
                case rel => exact ⟨k + 1, by omega, by rw [HSN.out.1]; simp [show ¬ lo < nd[k] from by omega], by rw [HSN.out.2]; simp [], rfl, HYn⟩
                case measure => simp [intOf]; omega
            | true =>
              go_wp2_with fail
              refine wp_flow [[], [0], [1, 0], [1, 0], [2, 1, 0, 3], [4, 2, 1, 0, 3], [5, 4, 2, 1, 0, 3], [1, 0], [1, 0], [7, 1, 0, 8], [9, 7, 1, 0, 8], [6, 5, 4, 2, 1, 0, 3, 10, 9, 7, 8], [1, 0, 11, 6, 5, 4, 2, 3, 10, 9, 7, 8], [12, 1, 0, 11, 6, 5, 4, 2, 3, 10, 9, 7, 8]] 13
                (fun V => V.cell? (ta.add (k * 2)) = some (.int .i64 lo) ∧ V.cell? ⟨(ta.add (k * 2)).block, (ta.add (k * 2)).off + 1, none⟩ = some (.int .i64 hi) ∧ V.cell? (an.add k) = some (.int .i64 nd[k]) ∧ Below wr.heap.size wr V)
                { tmps := #[.agg #[.slice A l.length c, .int .i64 fl, .int .i64 tg], .agg #[.slice A0 l0.length c0, .int .i64 a1, .int .i64 a2, .int .i64 a3, .int .i64 a4, .int .i64 a5, .int .i64 a6, .int .i64 a7, .int .i64 a8, .slice A9 l9.length c9, .int .i64 a10, .int .i64 a11, .int .i64 a12, .int .i64 a13, .int .i64 a14, .int .i64 a15, .int .i64 a16, .int .i64 a17, .int .i64 a18, .slice A19 l19.length c19, .slice A20 l20.length c20], .pointer (some ⟨W.heap.size, 0, none⟩), .pointer (some ⟨W.heap.size + 1, 0, none⟩), u4, .int .i64 wt, .int .i64 0, .slice (some an) nd.length cd, .int .i64 0, undef, .int .i64 n, .slice (some ta) (thW l n).length ct, .int .i64 0, .bool true, .bool true, .int .i64 k, u16, u17, u18, .agg #[.slice A l.length c, .int .i64 fl, .int .i64 tg], .bool false, .bool false, .agg #[.slice A0 l0.length c0, .int .i64 a1, .int .i64 a2, .int .i64 a3, .int .i64 a4, .int .i64 a5, .int .i64 a6, .int .i64 a7, .int .i64 a8, .slice A9 l9.length c9, .int .i64 a10, .int .i64 a11, .int .i64 a12, .int .i64 a13, .int .i64 a14, .int .i64 a15, .int .i64 a16, .int .i64 a17, .int .i64 a18, .slice A19 l19.length c19, .slice A20 l20.length c20], .bool false, .bool false, undef, .tuple #[.int .i64 wt, .int .i64 0], .agg #[.slice A l.length c, .int .i64 fl, .int .i64 tg], .pointer (some ⟨W.heap.size + 1, 1, none⟩), .agg #[.int .i64 a1, .int .i64 a2, .int .i64 a3, .int .i64 a4], .tuple #[.int .i64 wt, .int .i64 0], .int .i64 wt, .int .i64 0, .tuple #[.slice (some an) nd.length cd, .int .i64 0], .agg #[.slice A l.length c, .int .i64 fl, .int .i64 tg], .pointer (some ⟨W.heap.size + 1, 1, none⟩), .agg #[.int .i64 a1, .int .i64 a2, .int .i64 a3, .int .i64 a4], .tuple #[.slice (some an) nd.length cd, .int .i64 0], .slice (some an) nd.length cd, .int .i64 0, .int .i64 0, .int .i64 0, .bool false, .int .i64 0, .bool false, .bool false, .int .i64 wt, .bool false, .bool false, undef, .int .i64 wt, .int .i64 wt, .pointer (some ⟨W.heap.size + 1, 5, none⟩), .pointer (some ⟨W.heap.size + 1, 5, none⟩), .int .i64 a5, .int .i64 dv, .int .i64 dm, .int .i64 (wrap64 (wt + dm)), .int .i64 wt, .int .i64 (wrap64 (wt - 1)), .slice (some ⟨w5.heap.size, 0, none⟩) 3 3, .int .i64 3, .int .i64 j, .bool true, .pointer (some ⟨w5.heap.size, j, none⟩), .int .i64 n, .int .i64 n, .bool false, .bool false, .int .i64 n, .bool false, .bool false, .tuple #[.slice (some ta) (thW l n).length ct, .int .i64 0], .agg #[.slice A l.length c, .int .i64 fl, .int .i64 tg], .int .i64 n, .agg #[.int .i64 n, .int .i64 n], .tuple #[.slice (some ta) (thW l n).length ct, .int .i64 0], .slice (some ta) (thW l n).length ct, .int .i64 0, .int .i64 0, .bool false, .bool false, .slice (some ta) (thW l n).length ct, .int .i64 (thW l n).length, .slice (some an) nd.length cd, .int .i64 nd.length, .bool false, .bool false, .int .i64 k, .slice (some ta) (thW l n).length ct, .int .i64 (thW l n).length, .bool true, u92, u93, .bool true, .bool true, .slice (some ta) (thW l n).length ct, .int .i64 k, .pointer (some (ta.add (k * 2))), .pointer (some (ta.add (k * 2))), .int .i64 lo, .slice (some an) nd.length cd, .int .i64 k, .pointer (some (an.add k)), .int .i64 (nd[k]), .bool true, .bool true, u107, u108, u109, u110, u111, u112, u113, u114, u115, u116, u117, u118, u119, u120, u121, u122, u123, u124, u125, u126, u127, u128, u129, u130, u131, u132, u133, u134, u135, u136, u137, u138, u139, u140, u141, u142, u143, u144, u145, u146, u147, u148, u149, u150, undef], defers := [] }
                mixed (by kernel_rfl) rfl (Ahead.of3 94 107 rfl rfl (by kernel_rfl) rfl rfl) ?_ (AllFlow.ops rfl ?_) rfl ?_
              · exact ⟨s0, s1, n0, (Below.refl _ _).drew⟩
              · refine ⟨?_, ?_, ?_, ?_, ?_, ?_, ?_, ?_, ?_, ?_, ?_, ?_, ?_, trivial⟩
                · exact .val 94 _ rfl rfl fun V ⟨x0, x1, x2, hB_⟩ => by go_simp <;> exact IntWalk.i64_left _
                · exact .val 95 _ rfl rfl fun V ⟨x0, x1, x2, hB_⟩ => by go_simp <;> exact IntWalk.i64_left _
                · exact .val 96 _ rfl rfl fun V ⟨x0, x1, x2, hB_⟩ => by go_simp <;> exact IntWalk.i64_left _
                · exact .val 97 _ rfl rfl fun V ⟨x0, x1, x2, hB_⟩ => by go_simp <;> exact IntWalk.i64_left _
                · exact .val 98 _ rfl rfl fun V ⟨x0, x1, x2, hB_⟩ => by go_simp <;> exact IntWalk.i64_left _
                · exact .val 99 _ rfl rfl fun V ⟨x0, x1, x2, hB_⟩ => by go_simp <;> exact IntWalk.i64_left _
                · exact .val 100 _ rfl rfl fun V ⟨x0, x1, x2, hB_⟩ => by go_simp <;> exact IntWalk.i64_left _
                · exact .val 101 _ rfl rfl fun V ⟨x0, x1, x2, hB_⟩ => by go_simp <;> exact IntWalk.i64_left _
                · exact .val 102 _ rfl rfl fun V ⟨x0, x1, x2, hB_⟩ => by go_simp <;> exact IntWalk.i64_left _
                · exact .val 103 _ rfl rfl fun V ⟨x0, x1, x2, hB_⟩ => by go_simp <;> exact IntWalk.i64_left _
                · exact .val 104 _ rfl rfl fun V ⟨x0, x1, x2, hB_⟩ => by go_simp <;> exact IntWalk.i64_left _
                · exact .val 105 _ rfl rfl fun V ⟨x0, x1, x2, hB_⟩ => by go_simp <;> exact IntWalk.i64_left _
                · exact .val 106 _ rfl rfl fun V ⟨x0, x1, x2, hB_⟩ => by go_simp <;> exact IntWalk.i64_left _
              · rintro W20 ⟨x0, x1, x2, hB_⟩
                have HYn := hid (HY.out.trans (hB_.mono HY.out.size))
                clear hB_ s0 s1 n0
                by_cases g3 : 1 ≤ lo
                · have d3 : decide (1 ≤ lo) = true := decide_eq_true g3
                  by_cases g4 : hi ≤ 2000
                  · have d4 : decide (hi ≤ 2000) = true := decide_eq_true g4
                    go_wp2
                    simp only [HRK2.out]
                    go_roundw
                    case rel => exact ⟨k + 1, by omega, by rw [HSN.out.1]; simp [show ¬ lo < nd[k] from by omega], by rw [HSN.out.2]; simp [g3, g4], rfl, HYn⟩
                    case measure => simp [intOf]; omega
                  · have d4 : decide (hi ≤ 2000) = false := decide_eq_false g4
                    go_wp2
                    simp only [HRK2.out]
                    go_roundw
                    case rel => exact ⟨k + 1, by omega, by rw [HSN.out.1]; simp [show ¬ lo < nd[k] from by omega], by rw [HSN.out.2]; simp [show ¬ hi ≤ 2000 from g4], rfl, HYn⟩
                    case measure => simp [intOf]; omega
                · have d3 : decide (1 ≤ lo) = false := decide_eq_false g3
                  go_wp2
                  simp only [HRK2.out]
                  go_roundw
                  case rel => exact ⟨k + 1, by omega, by rw [HSN.out.1]; simp [show ¬ lo < nd[k] from by omega], by rw [HSN.out.2]; simp [show ¬ 1 ≤ lo from g3], rfl, HYn⟩
                  case measure => simp [intOf]; omega
          · have d2 : decide (nd[k] ≤ lo) = false := decide_eq_false g2
            cases my with
            | false =>
              go_wp2_with fail
              refine wp_flow [[], [0], [1, 0], [1, 0], [2, 1, 0, 3], [4, 2, 1, 0, 3], [5, 4, 2, 1, 0, 3], [1, 0], [1, 0], [7, 1, 0, 8], [9, 7, 1, 0, 8], [6, 5, 4, 2, 1, 0, 3, 10, 9, 7, 8], [1, 0, 11, 6, 5, 4, 2, 3, 10, 9, 7, 8], [12, 1, 0, 11, 6, 5, 4, 2, 3, 10, 9, 7, 8]] 13
                (fun V => V.cell? (ta.add (k * 2)) = some (.int .i64 lo) ∧ V.cell? ⟨(ta.add (k * 2)).block, (ta.add (k * 2)).off + 1, none⟩ = some (.int .i64 hi) ∧ V.cell? (an.add k) = some (.int .i64 nd[k]) ∧ Below wr.heap.size wr V)
                { tmps := #[.agg #[.slice A l.length c, .int .i64 fl, .int .i64 tg], .agg #[.slice A0 l0.length c0, .int .i64 a1, .int .i64 a2, .int .i64 a3, .int .i64 a4, .int .i64 a5, .int .i64 a6, .int .i64 a7, .int .i64 a8, .slice A9 l9.length c9, .int .i64 a10, .int .i64 a11, .int .i64 a12, .int .i64 a13, .int .i64 a14, .int .i64 a15, .int .i64 a16, .int .i64 a17, .int .i64 a18, .slice A19 l19.length c19, .slice A20 l20.length c20], .pointer (some ⟨W.heap.size, 0, none⟩), .pointer (some ⟨W.heap.size + 1, 0, none⟩), u4, .int .i64 wt, .int .i64 0, .slice (some an) nd.length cd, .int .i64 0, undef, .int .i64 n, .slice (some ta) (thW l n).length ct, .int .i64 0, .bool true, .bool false, .int .i64 k, u16, u17, u18, .agg #[.slice A l.length c, .int .i64 fl, .int .i64 tg], .bool false, .bool false, .agg #[.slice A0 l0.length c0, .int .i64 a1, .int .i64 a2, .int .i64 a3, .int .i64 a4, .int .i64 a5, .int .i64 a6, .int .i64 a7, .int .i64 a8, .slice A9 l9.length c9, .int .i64 a10, .int .i64 a11, .int .i64 a12, .int .i64 a13, .int .i64 a14, .int .i64 a15, .int .i64 a16, .int .i64 a17, .int .i64 a18, .slice A19 l19.length c19, .slice A20 l20.length c20], .bool false, .bool false, undef, .tuple #[.int .i64 wt, .int .i64 0], .agg #[.slice A l.length c, .int .i64 fl, .int .i64 tg], .pointer (some ⟨W.heap.size + 1, 1, none⟩), .agg #[.int .i64 a1, .int .i64 a2, .int .i64 a3, .int .i64 a4], .tuple #[.int .i64 wt, .int .i64 0], .int .i64 wt, .int .i64 0, .tuple #[.slice (some an) nd.length cd, .int .i64 0], .agg #[.slice A l.length c, .int .i64 fl, .int .i64 tg], .pointer (some ⟨W.heap.size + 1, 1, none⟩), .agg #[.int .i64 a1, .int .i64 a2, .int .i64 a3, .int .i64 a4], .tuple #[.slice (some an) nd.length cd, .int .i64 0], .slice (some an) nd.length cd, .int .i64 0, .int .i64 0, .int .i64 0, .bool false, .int .i64 0, .bool false, .bool false, .int .i64 wt, .bool false, .bool false, undef, .int .i64 wt, .int .i64 wt, .pointer (some ⟨W.heap.size + 1, 5, none⟩), .pointer (some ⟨W.heap.size + 1, 5, none⟩), .int .i64 a5, .int .i64 dv, .int .i64 dm, .int .i64 (wrap64 (wt + dm)), .int .i64 wt, .int .i64 (wrap64 (wt - 1)), .slice (some ⟨w5.heap.size, 0, none⟩) 3 3, .int .i64 3, .int .i64 j, .bool true, .pointer (some ⟨w5.heap.size, j, none⟩), .int .i64 n, .int .i64 n, .bool false, .bool false, .int .i64 n, .bool false, .bool false, .tuple #[.slice (some ta) (thW l n).length ct, .int .i64 0], .agg #[.slice A l.length c, .int .i64 fl, .int .i64 tg], .int .i64 n, .agg #[.int .i64 n, .int .i64 n], .tuple #[.slice (some ta) (thW l n).length ct, .int .i64 0], .slice (some ta) (thW l n).length ct, .int .i64 0, .int .i64 0, .bool false, .bool false, .slice (some ta) (thW l n).length ct, .int .i64 (thW l n).length, .slice (some an) nd.length cd, .int .i64 nd.length, .bool false, .bool false, .int .i64 k, .slice (some ta) (thW l n).length ct, .int .i64 (thW l n).length, .bool true, u92, u93, .bool true, .bool true, .slice (some ta) (thW l n).length ct, .int .i64 k, .pointer (some (ta.add (k * 2))), .pointer (some (ta.add (k * 2))), .int .i64 lo, .slice (some an) nd.length cd, .int .i64 k, .pointer (some (an.add k)), .int .i64 (nd[k]), .bool false, .bool false, u107, u108, u109, u110, u111, u112, u113, u114, u115, u116, u117, u118, u119, u120, u121, u122, u123, u124, u125, u126, u127, u128, u129, u130, u131, u132, u133, u134, u135, u136, u137, u138, u139, u140, u141, u142, u143, u144, u145, u146, u147, u148, u149, u150, undef], defers := [] }
                mixed (by kernel_rfl) rfl (Ahead.of3 94 107 rfl rfl (by kernel_rfl) rfl rfl) ?_ (AllFlow.ops rfl ?_) rfl ?_
              · exact ⟨s0, s1, n0, (Below.refl _ _).drew⟩
              · refine ⟨?_, ?_, ?_, ?_, ?_, ?_, ?_, ?_, ?_, ?_, ?_, ?_, ?_, trivial⟩
                · exact .val 94 _ rfl rfl fun V ⟨x0, x1, x2, hB_⟩ => by go_simp <;> exact IntWalk.i64_left _
                · exact .val 95 _ rfl rfl fun V ⟨x0, x1, x2, hB_⟩ => by go_simp <;> exact IntWalk.i64_left _
                · exact .val 96 _ rfl rfl fun V ⟨x0, x1, x2, hB_⟩ => by go_simp <;> exact IntWalk.i64_left _
                · exact .val 97 _ rfl rfl fun V ⟨x0, x1, x2, hB_⟩ => by go_simp <;> exact IntWalk.i64_left _
                · exact .val 98 _ rfl rfl fun V ⟨x0, x1, x2, hB_⟩ => by go_simp <;> exact IntWalk.i64_left _
                · exact .val 99 _ rfl rfl fun V ⟨x0, x1, x2, hB_⟩ => by go_simp <;> exact IntWalk.i64_left _
                · exact .val 100 _ rfl rfl fun V ⟨x0, x1, x2, hB_⟩ => by go_simp <;> exact IntWalk.i64_left _
                · exact .val 101 _ rfl rfl fun V ⟨x0, x1, x2, hB_⟩ => by go_simp <;> exact IntWalk.i64_left _
                · exact .val 102 _ rfl rfl fun V ⟨x0, x1, x2, hB_⟩ => by go_simp <;> exact IntWalk.i64_left _
                · exact .val 103 _ rfl rfl fun V ⟨x0, x1, x2, hB_⟩ => by go_simp <;> exact IntWalk.i64_left _
                · exact .val 104 _ rfl rfl fun V ⟨x0, x1, x2, hB_⟩ => by go_simp <;> exact IntWalk.i64_left _
                · exact .val 105 _ rfl rfl fun V ⟨x0, x1, x2, hB_⟩ => by go_simp <;> exact IntWalk.i64_left _
                · exact .val 106 _ rfl rfl fun V ⟨x0, x1, x2, hB_⟩ => by go_simp <;> exact IntWalk.i64_left _
              · rintro W20 ⟨x0, x1, x2, hB_⟩
                have HYn := hid (HY.out.trans (hB_.mono HY.out.size))
                clear hB_ s0 s1 n0
                go_wp2
                simp only [HRK2.out]
                go_roundw
                case rel => exact ⟨k + 1, by omega, by rw [HSN.out.1]; simp [show lo < nd[k] from by omega], by rw [HSN.out.2]; simp [], rfl, HYn⟩
                case measure => simp [intOf]; omega
            | true =>
              go_wp2_with fail
              refine wp_flow [[], [0], [1, 0], [1, 0], [2, 1, 0, 3], [4, 2, 1, 0, 3], [5, 4, 2, 1, 0, 3], [1, 0], [1, 0], [7, 1, 0, 8], [9, 7, 1, 0, 8], [6, 5, 4, 2, 1, 0, 3, 10, 9, 7, 8], [1, 0, 11, 6, 5, 4, 2, 3, 10, 9, 7, 8], [12, 1, 0, 11, 6, 5, 4, 2, 3, 10, 9, 7, 8]] 13
                (fun V => V.cell? (ta.add (k * 2)) = some (.int .i64 lo) ∧ V.cell? ⟨(ta.add (k * 2)).block, (ta.add (k * 2)).off + 1, none⟩ = some (.int .i64 hi) ∧ V.cell? (an.add k) = some (.int .i64 nd[k]) ∧ Below wr.heap.size wr V)
                { tmps := #[.agg #[.slice A l.length c, .int .i64 fl, .int .i64 tg], .agg #[.slice A0 l0.length c0, .int .i64 a1, .int .i64 a2, .int .i64 a3, .int .i64 a4, .int .i64 a5, .int .i64 a6, .int .i64 a7, .int .i64 a8, .slice A9 l9.length c9, .int .i64 a10, .int .i64 a11, .int .i64 a12, .int .i64 a13, .int .i64 a14, .int .i64 a15, .int .i64 a16, .int .i64 a17, .int .i64 a18, .slice A19 l19.length c19, .slice A20 l20.length c20], .pointer (some ⟨W.heap.size, 0, none⟩), .pointer (some ⟨W.heap.size + 1, 0, none⟩), u4, .int .i64 wt, .int .i64 0, .slice (some an) nd.length cd, .int .i64 0, undef, .int .i64 n, .slice (some ta) (thW l n).length ct, .int .i64 0, .bool true, .bool true, .int .i64 k, u16, u17, u18, .agg #[.slice A l.length c, .int .i64 fl, .int .i64 tg], .bool false, .bool false, .agg #[.slice A0 l0.length c0, .int .i64 a1, .int .i64 a2, .int .i64 a3, .int .i64 a4, .int .i64 a5, .int .i64 a6, .int .i64 a7, .int .i64 a8, .slice A9 l9.length c9, .int .i64 a10, .int .i64 a11, .int .i64 a12, .int .i64 a13, .int .i64 a14, .int .i64 a15, .int .i64 a16, .int .i64 a17, .int .i64 a18, .slice A19 l19.length c19, .slice A20 l20.length c20], .bool false, .bool false, undef, .tuple #[.int .i64 wt, .int .i64 0], .agg #[.slice A l.length c, .int .i64 fl, .int .i64 tg], .pointer (some ⟨W.heap.size + 1, 1, none⟩), .agg #[.int .i64 a1, .int .i64 a2, .int .i64 a3, .int .i64 a4], .tuple #[.int .i64 wt, .int .i64 0], .int .i64 wt, .int .i64 0, .tuple #[.slice (some an) nd.length cd, .int .i64 0], .agg #[.slice A l.length c, .int .i64 fl, .int .i64 tg], .pointer (some ⟨W.heap.size + 1, 1, none⟩), .agg #[.int .i64 a1, .int .i64 a2, .int .i64 a3, .int .i64 a4], .tuple #[.slice (some an) nd.length cd, .int .i64 0], .slice (some an) nd.length cd, .int .i64 0, .int .i64 0, .int .i64 0, .bool false, .int .i64 0, .bool false, .bool false, .int .i64 wt, .bool false, .bool false, undef, .int .i64 wt, .int .i64 wt, .pointer (some ⟨W.heap.size + 1, 5, none⟩), .pointer (some ⟨W.heap.size + 1, 5, none⟩), .int .i64 a5, .int .i64 dv, .int .i64 dm, .int .i64 (wrap64 (wt + dm)), .int .i64 wt, .int .i64 (wrap64 (wt - 1)), .slice (some ⟨w5.heap.size, 0, none⟩) 3 3, .int .i64 3, .int .i64 j, .bool true, .pointer (some ⟨w5.heap.size, j, none⟩), .int .i64 n, .int .i64 n, .bool false, .bool false, .int .i64 n, .bool false, .bool false, .tuple #[.slice (some ta) (thW l n).length ct, .int .i64 0], .agg #[.slice A l.length c, .int .i64 fl, .int .i64 tg], .int .i64 n, .agg #[.int .i64 n, .int .i64 n], .tuple #[.slice (some ta) (thW l n).length ct, .int .i64 0], .slice (some ta) (thW l n).length ct, .int .i64 0, .int .i64 0, .bool false, .bool false, .slice (some ta) (thW l n).length ct, .int .i64 (thW l n).length, .slice (some an) nd.length cd, .int .i64 nd.length, .bool false, .bool false, .int .i64 k, .slice (some ta) (thW l n).length ct, .int .i64 (thW l n).length, .bool true, u92, u93, .bool true, .bool true, .slice (some ta) (thW l n).length ct, .int .i64 k, .pointer (some (ta.add (k * 2))), .pointer (some (ta.add (k * 2))), .int .i64 lo, .slice (some an) nd.length cd, .int .i64 k, .pointer (some (an.add k)), .int .i64 (nd[k]), .bool false, .bool false, u107, u108, u109, u110, u111, u112, u113, u114, u115, u116, u117, u118, u119, u120, u121, u122, u123, u124, u125, u126, u127, u128, u129, u130, u131, u132, u133, u134, u135, u136, u137, u138, u139, u140, u141, u142, u143, u144, u145, u146, u147, u148, u149, u150, undef], defers := [] }
                mixed (by kernel_rfl) rfl (Ahead.of3 94 107 rfl rfl (by kernel_rfl) rfl rfl) ?_ (AllFlow.ops rfl ?_) rfl ?_
              · exact ⟨s0, s1, n0, (Below.refl _ _).drew⟩
              · refine ⟨?_, ?_, ?_, ?_, ?_, ?_, ?_, ?_, ?_, ?_, ?_, ?_, ?_, trivial⟩
                · exact .val 94 _ rfl rfl fun V ⟨x0, x1, x2, hB_⟩ => by go_simp <;> exact IntWalk.i64_left _
                · exact .val 95 _ rfl rfl fun V ⟨x0, x1, x2, hB_⟩ => by go_simp <;> exact IntWalk.i64_left _
                · exact .val 96 _ rfl rfl fun V ⟨x0, x1, x2, hB_⟩ => by go_simp <;> exact IntWalk.i64_left _
                · exact .val 97 _ rfl rfl fun V ⟨x0, x1, x2, hB_⟩ => by go_simp <;> exact IntWalk.i64_left _
                · exact .val 98 _ rfl rfl fun V ⟨x0, x1, x2, hB_⟩ => by go_simp <;> exact IntWalk.i64_left _
                · exact .val 99 _ rfl rfl fun V ⟨x0, x1, x2, hB_⟩ => by go_simp <;> exact IntWalk.i64_left _
                · exact .val 100 _ rfl rfl fun V ⟨x0, x1, x2, hB_⟩ => by go_simp <;> exact IntWalk.i64_left _
                · exact .val 101 _ rfl rfl fun V ⟨x0, x1, x2, hB_⟩ => by go_simp <;> exact IntWalk.i64_left _
                · exact .val 102 _ rfl rfl fun V ⟨x0, x1, x2, hB_⟩ => by go_simp <;> exact IntWalk.i64_left _
                · exact .val 103 _ rfl rfl fun V ⟨x0, x1, x2, hB_⟩ => by go_simp <;> exact IntWalk.i64_left _
                · exact .val 104 _ rfl rfl fun V ⟨x0, x1, x2, hB_⟩ => by go_simp <;> exact IntWalk.i64_left _
                · exact .val 105 _ rfl rfl fun V ⟨x0, x1, x2, hB_⟩ => by go_simp <;> exact IntWalk.i64_left _
                · exact .val 106 _ rfl rfl fun V ⟨x0, x1, x2, hB_⟩ => by go_simp <;> exact IntWalk.i64_left _
              · rintro W20 ⟨x0, x1, x2, hB_⟩
                have HYn := hid (HY.out.trans (hB_.mono HY.out.size))
                clear hB_ s0 s1 n0
                by_cases g3 : 1 ≤ lo
                · have d3 : decide (1 ≤ lo) = true := decide_eq_true g3
                  by_cases g4 : hi ≤ 2000
                  · have d4 : decide (hi ≤ 2000) = true := decide_eq_true g4
                    go_wp2
                    simp only [HRK2.out]
                    go_roundw
                    case rel => exact ⟨k + 1, by omega, by rw [HSN.out.1]; simp [show lo < nd[k] from by omega], by rw [HSN.out.2]; simp [g3, g4], rfl, HYn⟩
                    case measure => simp [intOf]; omega
                  · have d4 : decide (hi ≤ 2000) = false := decide_eq_false g4
                    go_wp2
                    simp only [HRK2.out]
                    go_roundw
                    case rel => exact ⟨k + 1, by omega, by rw [HSN.out.1]; simp [show lo < nd[k] from by omega], by rw [HSN.out.2]; simp [show ¬ hi ≤ 2000 from g4], rfl, HYn⟩
                    case measure => simp [intOf]; omega
                · have d3 : decide (1 ≤ lo) = false := decide_eq_false g3
                  go_wp2
                  simp only [HRK2.out]
                  go_roundw
                  case rel => exact ⟨k + 1, by omega, by rw [HSN.out.1]; simp [show lo < nd[k] from by omega], by rw [HSN.out.2]; simp [show ¬ 1 ≤ lo from g3], rfl, HYn⟩
                  case measure => simp [intOf]; omega
      · have hd : decide ((k : Int) < (nd.length : Int)) = false := decide_eq_false (by omega)
        have hlen2 : (thW l n).length = nd.length := by have := HND.out.2.2; omega
        rw [hlen2]
        have HLEN := hid hlen2
        obtain rfl : k = nd.length := by omega
        have hlit : en = decide (wt ≤ n) := by
          rw [← HLI.out.2.2.2 n HG.out.1 HG.out.2, ← HEN.out.1]
          unfold lit
          rw [List.take_of_length_le (by rw [List.length_zip]; omega)]
        have hmay : l.all (mayAt n) = my := by
          rw [← HEN.out.2, List.take_of_length_le (by have := HND.out.2.2; omega)]
        have hres : my = true → (holdsRes l fl tg (thW l n) a1 a2 a3 a4).2.2 = 0 ∧ (en = true → (holdsRes l fl tg (thW l n) a1 a2 a3 a4).1 = true) := by
          intro hm
          obtain ⟨h1, h2, _⟩ := HND.out
          subst h1
          have := may_holds HZ.out HLI.out.1 HG.out.1 HG.out.2 (hmay.trans hm)
          refine ⟨this.1, fun he => this.2 ?_⟩
          rw [HLI.out.2.2.2 n HG.out.1 HG.out.2, ← hlit]; exact he
        have HRES := hid hres
        have HBk := hid hBk
        have hIk := HI5.out.grow hBk
        have HLT := hid hlit
        have dq : decide (wt ≤ n) = en := hlit.symm
        have p0 := blkCell hIk.hb 0
        have p1 := blkCell hIk.hb 1
        have p2 := blkCell hIk.hb 2
        have q0 := blkCell hIk.ha 0
        have q1 := blkCell hIk.ha 1
        have q2 := blkCell hIk.ha 2
        have q3 := blkCell hIk.ha 3
        have q4 := blkCell hIk.ha 4
        have q5 := blkCell hIk.ha 5
        simp at p0 p1 p2 q0 q1 q2 q3 q4 q5
        clear hIk hres hlit hmay hBk hk hlen q5 hlen2
        cases en with
        | false =>
          go_wp2_with fail
          have hst := Holds_any A c l fl tg At ct (thW l n) a1 a2 a3 a4 _ (Kd.C_below HC.out.1 (HI5.out.be.trans (HBk.out.mono HI5.out.be.size))) (Kd.C_below HCT.out HY.out) (by have := HL.out.2.1; rw [thW_len]; omega) (by have := HL.out.2.1; omega)
          rw [HLEN.out] at hst
          refine hst.mono ?_
          rintro e w20 ⟨rfl, hb⟩
          obtain ⟨h1, hh1⟩ : ∃ x, (holdsRes l fl tg (thW l n) a1 a2 a3 a4).1 = x := ⟨_, rfl⟩
          obtain ⟨he, hhe⟩ : ∃ x, (holdsRes l fl tg (thW l n) a1 a2 a3 a4).2.2 = x := ⟨_, rfl⟩
          have hr := HRES.out
          rw [hh1, hhe] at hr
          rw [hh1, hhe]
          have HB20 := hid (HBk.out.trans (hb.mono HBk.out.size))
          have HN20 := hid (heap_grow (heap_grow HNS.out HY.out) hb)
          have HXn := hid (And.intro HB20.out HN20.out)
          clear hst hb hh1 hhe p0 p1 p2 q0 q1 q2 q3 q4 dq
          cases my with
          | false =>
            clear hr
            go_wp2
            go_roundw
            case rel => exact ⟨j + 1, by omega, by go_num, HXn⟩
            case measure => simp [intOf]; omega
          | true =>
            obtain ⟨hr1, hr2⟩ := hr rfl
            subst hr1
            clear hr hr2
            go_wp2
            go_roundw
            case rel => exact ⟨j + 1, by omega, by go_num, HXn⟩
            case measure => simp [intOf]; omega
        | true =>
          go_wp2_with fail
          have hst := Holds_any A c l fl tg At ct (thW l n) a1 a2 a3 a4 _ (Kd.C_below HC.out.1 (HI5.out.be.trans (HBk.out.mono HI5.out.be.size))) (Kd.C_below HCT.out HY.out) (by have := HL.out.2.1; rw [thW_len]; omega) (by have := HL.out.2.1; omega)
          rw [HLEN.out] at hst
          refine hst.mono ?_
          rintro e w20 ⟨rfl, hb⟩
          obtain ⟨h1, hh1⟩ : ∃ x, (holdsRes l fl tg (thW l n) a1 a2 a3 a4).1 = x := ⟨_, rfl⟩
          obtain ⟨he, hhe⟩ : ∃ x, (holdsRes l fl tg (thW l n) a1 a2 a3 a4).2.2 = x := ⟨_, rfl⟩
          have hr := HRES.out
          rw [hh1, hhe] at hr
          rw [hh1, hhe]
          have HB20 := hid (HBk.out.trans (hb.mono HBk.out.size))
          have HN20 := hid (heap_grow (heap_grow HNS.out HY.out) hb)
          have HXn := hid (And.intro HB20.out HN20.out)
          clear hst hb hh1 hhe p0 p1 p2 q0 q1 q2 q3 q4 dq
          cases my with
          | false =>
            clear hr
            go_wp2
            go_roundw
            case rel => exact ⟨j + 1, by omega, by go_num, HXn⟩
            case measure => simp [intOf]; omega
          | true =>
            obtain ⟨hr1, hr2⟩ := hr rfl
            subst hr1
            have hh : h1 = true := by simpa using hr2
            subst hh
            clear hr hr2
            go_wp2
            go_roundw
            case rel => exact ⟨j + 1, by omega, by go_num, HXn⟩
            case measure => simp [intOf]; omega
  · have hd : decide ((j : Int) < 3) = false := decide_eq_false (by omega)
    have HB9 := hid (HI5.out.be.trans (HX.out.1.mono HI5.out.be.size))
    go_wp2_with (first | (go_at_call 14; refine (lives_any _).mono ?_; rintro e w9 ⟨rfl, hb⟩))
    refine bodyPost_ret (v := .bool true) (by simp [results, Try.results12, go_sem]) rfl ⟨rfl, HB9.out.trans (hb.mono (HB9.out).size)⟩
end Go.Proofs.Ythoofldinnfpiaa
