import Derived.Test.YthoofldinnfpiaaLW
import Derived.Test.YthoofldinnfpiaaPT
import Derived.Test.YthoofldinnfpiaaLP
import Derived.Test.YthoofldinnfpiaaFL
namespace Go.Proofs.Ythoofldinnfpiaa
open Go.RowKit Go.Proofs.YthoofldinnfpiaaW.PrintWords Go.Proofs.YthoofldinnfpiaaW.PrintLast Go.Proofs.YthoofldinnfpiaaW.PrintMore
open Q Go.Shelf
attribute [local go_sem] Oper.semAt_some wide_depth wide_fn
set_option linter.unusedVariables false
theorem size33 : (Try.prog.info? 33).map (·.size) = some 21 := by kernel_rfl
theorem loadVar_ne (t : TypeId) (a : Addr) (h : ¬ t = 33) : loadVar t a = (do if ← isAgg t then pure (.agg (← loadCells a (← sizeOf t))) else load a) := rfl
attribute [-go_sem] loadVar
attribute [local go_sem] loadVar_ne
attribute [local go_sem] max2_int min2_int max_two min_two
section
variable {P : Program} {ops : Array Oper} {rest : List Oper} {o : Oper} {a : Act} {Q : Exit → Act → World → Prop} {W : World}
theorem gate_ix {t : TypeId} {x y : Operand} (_ho : o.op = .indexAddr t x y) (h : wpList P ops Q (o :: rest) a W) : wpList P ops Q (o :: rest) a W := h
theorem gate_ld {t : TypeId} {x : Operand} (_ho : o.op = .load t x) (h : wpList P ops Q (o :: rest) a W) : wpList P ops Q (o :: rest) a W := h
end
theorem bears_yes (A : Option Addr) (c : Nat) (l : List S82) (fl tg x : Int) (w : World) (hr : Kd.C k82 w A l.length l) (hc : l.length ≤ c) (h1 : 1 ≤ fl) (h3 : 0 ≤ tg) (h4 : tg ≤ 1000000000000000) (hx : 0 ≤ x) (h : x ≤ limitOf fl tg) :
    Calls Try.prog 34 #[.agg #[.slice A l.length c, .int .i64 fl, .int .i64 tg], .int .i64 x] w fun e w' => e = .returned (.bool true) ∧ Below w.heap.size w w' := by
  have := bears34_any A c l fl tg x w hr hc h1 h3 h4 hx
  rwa [decide_eq_true h] at this
theorem bears_no (A : Option Addr) (c : Nat) (l : List S82) (fl tg x : Int) (w : World) (hr : Kd.C k82 w A l.length l) (hc : l.length ≤ c) (h1 : 1 ≤ fl) (h3 : 0 ≤ tg) (h4 : tg ≤ 1000000000000000) (hx : 0 ≤ x) (h : ¬ x ≤ limitOf fl tg) :
    Calls Try.prog 34 #[.agg #[.slice A l.length c, .int .i64 fl, .int .i64 tg], .int .i64 x] w fun e w' => e = .returned (.bool false) ∧ Below w.heap.size w w' := by
  have := bears34_any A c l fl tg x w hr hc h1 h3 h4 hx
  rwa [decide_eq_false h] at this
theorem thin_exact (a : Int) (w : World) : Calls Try.prog 32 #[.int .i64 a] w fun e w' => e = .returned (.agg #[.int .i64 a, .int .i64 a]) ∧ Below w.heap.size w w' :=
  culletlaw05_exact.calls a a a w rfl
set_option maxRecDepth 100000 in
set_option maxHeartbeats 8000000 in
set_option pp.deepTerms true in
set_option pp.maxSteps 1000000 in
theorem strengthThin_calls (A : Option Addr) (c : Nat) (l : List S82) (fl tg : Int) (A0 : Option Addr) (c0 : Nat) (l0 : List S29) (a1 a2 a3 a4 a5 a6 a7 a8 : Int) (A9 : Option Addr) (c9 : Nat) (l9 : List Int) (a10 a11 a12 a13 a14 a15 a16 a17 a18 : Int) (A19 : Option Addr) (c19 : Nat) (l19 : List Int) (A20 : Option Addr) (c20 : Nat) (l20 : List S118) (W : World)
    (hC : Kd.C k82 W A l.length l) (hl : l.length ≤ c) (hC0 : Kd.C k29 W A0 l0.length l0) (hl0 : l0.length ≤ c0) (hC9 : Kd.C (Kd.int .i64) W A9 l9.length l9) (hl9 : l9.length ≤ c9) (hC19 : Kd.C (Kd.int .i64) W A19 l19.length l19) (hl19 : l19.length ≤ c19) (hC20 : Kd.C k118 W A20 l20.length l20) (hl20 : l20.length ≤ c20)
    (wl : ∀ y ∈ l, W82 y) (w1 : W64 fl) (w2 : W64 tg)
    (wf : (∀ y ∈ l0, W29 y) ∧ (W64 a1 ∧ W64 a2 ∧ W64 a3 ∧ W64 a4) ∧ W64 a5 ∧ W64 a6 ∧ W64 a7 ∧ W64 a8 ∧ (∀ y ∈ l9, W64 y) ∧ W64 a10 ∧ W64 a11 ∧ W64 a12 ∧ W64 a13 ∧ W64 a14 ∧ W64 a15 ∧ W64 a16 ∧ W64 a17 ∧ W64 a18 ∧ (∀ y ∈ l19, W64 y) ∧ ∀ y ∈ l20, W118 y) :
    Calls Try.prog 6 #[.agg #[.slice A l.length c, .int .i64 fl, .int .i64 tg], .agg #[.slice A0 l0.length c0, .int .i64 a1, .int .i64 a2, .int .i64 a3, .int .i64 a4, .int .i64 a5, .int .i64 a6, .int .i64 a7, .int .i64 a8, .slice A9 l9.length c9, .int .i64 a10, .int .i64 a11, .int .i64 a12, .int .i64 a13, .int .i64 a14, .int .i64 a15, .int .i64 a16, .int .i64 a17, .int .i64 a18, .slice A19 l19.length c19, .slice A20 l20.length c20]] W fun e w' => e = .returned (.bool true) ∧ Below W.heap.size W w' := by
  have HB := Below.refl W.heap.size W
  obtain ⟨b, ⟨K, hK⟩, hw⟩ := wide05 l0 a1 a2 a3 a4 a5 a6 a7 a8 l9 a10 a11 a12 a13 a14 a15 a16 a17 a18 l19 l20
  have HW := hid (hK K (Nat.le_refl _))
  have HC := hid (And.intro hC (And.intro hl (And.intro hC0 (And.intro hl0 (And.intro hC9 (And.intro hl9 (And.intro hC19 (And.intro hl19 (And.intro hC20 hl20)))))))))
  have hu24 := Try.underlying24
  have hu33 := Try.underlying33
  have hu27 := Try.underlying27
  have hu29 := Try.underlying29
  clear hK hC hl hC0 hl0 hC9 hl9 hC19 hl19 hC20 hl20 wl w1 w2 wf
  go_enter Try.func6, Try.ntmps6
  go_wp2_with fail
  obtain ⟨hC, hl, hC0, hl0, hC9, hl9, hC19, hl19, hC20, hl20⟩ := HC.out
  have hbel := (HB.alloc (Nat.le_refl _) (.cells #[.slice A l.length c, .int .i64 fl, .int .i64 tg] 24)).alloc (by simp) (.cells #[.slice A0 l0.length c0, .int .i64 a1, .int .i64 a2, .int .i64 a3, .int .i64 a4, .int .i64 a5, .int .i64 a6, .int .i64 a7, .int .i64 a8, .slice A9 l9.length c9, .int .i64 a10, .int .i64 a11, .int .i64 a12, .int .i64 a13, .int .i64 a14, .int .i64 a15, .int .i64 a16, .int .i64 a17, .int .i64 a18, .slice A19 l19.length c19, .slice A20 l20.length c20] 33)
  have e0 := World.alloc_heap_new W (.cells #[.slice A l.length c, .int .i64 fl, .int .i64 tg] 24)
  have e1 := World.alloc_heap_new (W.alloc (.cells #[.slice A l.length c, .int .i64 fl, .int .i64 tg] 24)) (.cells #[.slice A0 l0.length c0, .int .i64 a1, .int .i64 a2, .int .i64 a3, .int .i64 a4, .int .i64 a5, .int .i64 a6, .int .i64 a7, .int .i64 a8, .slice A9 l9.length c9, .int .i64 a10, .int .i64 a11, .int .i64 a12, .int .i64 a13, .int .i64 a14, .int .i64 a15, .int .i64 a16, .int .i64 a17, .int .i64 a18, .slice A19 l19.length c19, .slice A20 l20.length c20] 33)
  have e0 := alloc_old (o' := .cells #[.slice A0 l0.length c0, .int .i64 a1, .int .i64 a2, .int .i64 a3, .int .i64 a4, .int .i64 a5, .int .i64 a6, .int .i64 a7, .int .i64 a8, .slice A9 l9.length c9, .int .i64 a10, .int .i64 a11, .int .i64 a12, .int .i64 a13, .int .i64 a14, .int .i64 a15, .int .i64 a16, .int .i64 a17, .int .i64 a18, .slice A19 l19.length c19, .slice A20 l20.length c20] 33) e0
  rw [World.size_alloc] at e1
  have hI : LawB W A c l fl tg A0 c0 l0 a1 a2 a3 a4 a5 a6 a7 a8 A9 c9 l9 a10 a11 a12 a13 a14 a15 a16 a17 a18 A19 c19 l19 A20 c20 l20 ((W.alloc (.cells #[.slice A l.length c, .int .i64 fl, .int .i64 tg] 24)).alloc (.cells #[.slice A0 l0.length c0, .int .i64 a1, .int .i64 a2, .int .i64 a3, .int .i64 a4, .int .i64 a5, .int .i64 a6, .int .i64 a7, .int .i64 a8, .slice A9 l9.length c9, .int .i64 a10, .int .i64 a11, .int .i64 a12, .int .i64 a13, .int .i64 a14, .int .i64 a15, .int .i64 a16, .int .i64 a17, .int .i64 a18, .slice A19 l19.length c19, .slice A20 l20.length c20] 33)) := ⟨e0, e1, hbel⟩
  generalize ((W.alloc (.cells #[.slice A l.length c, .int .i64 fl, .int .i64 tg] 24)).alloc (.cells #[.slice A0 l0.length c0, .int .i64 a1, .int .i64 a2, .int .i64 a3, .int .i64 a4, .int .i64 a5, .int .i64 a6, .int .i64 a7, .int .i64 a8, .slice A9 l9.length c9, .int .i64 a10, .int .i64 a11, .int .i64 a12, .int .i64 a13, .int .i64 a14, .int .i64 a15, .int .i64 a16, .int .i64 a17, .int .i64 a18, .slice A19 l19.length c19, .slice A20 l20.length c20] 33)) = W2 at *
  refine (great_any A c l fl tg _ (Kd.C_below hC hI.be) hl).mono ?_
  rintro e w1 ⟨rfl, hb⟩
  have HI1 := hid (hI.grow hb)
  clear hI hb e0 e1 hbel hC hl hC0 hl0 hC9 hl9 hC19 hl19 hC20 hl20 HB
  cases hg : decide ((l.length : Int) > 40) with
  | true =>
    go_wp2_with (first | (go_at_call 14; refine (lives_any _).mono ?_; rintro e w9 ⟨rfl, hb⟩))
    refine bodyPost_ret (v := .bool true) (by simp [results, Try.results6, go_sem]) rfl ⟨rfl, HI1.out.be.trans (hb.mono HI1.out.be.size)⟩
  | false =>
  have HG := hid hg
  clear hg
  have hld := run_loadVar_row (P := Try.prog) w1 (W.heap.size + 1) 33 33 #[.slice A0 l0.length c0, .int .i64 a1, .int .i64 a2, .int .i64 a3, .int .i64 a4, .int .i64 a5, .int .i64 a6, .int .i64 a7, .int .i64 a8, .slice A9 l9.length c9, .int .i64 a10, .int .i64 a11, .int .i64 a12, .int .i64 a13, .int .i64 a14, .int .i64 a15, .int .i64 a16, .int .i64 a17, .int .i64 a18, .slice A19 l19.length c19, .slice A20 l20.length c20] (0, 0) _ HI1.out.ha Try.underlying33 rfl size33
  go_wp2_with fail
  obtain ⟨hC, hl, hC0, hl0, hC9, hl9, hC19, hl19, hC20, hl20⟩ := HC.out
  have hbe := HI1.out.be
  refine (culletlaw05_Wide.calls K A0 c0 l0 a1 a2 a3 a4 a5 a6 a7 a8 A9 c9 l9 a10 a11 a12 a13 a14 a15 a16 a17 a18 A19 c19 l19 A20 c20 l20 b _ (Kd.C_below hC0 hbe) hl0 (Kd.C_below hC9 hbe) hl9 (Kd.C_below hC19 hbe) hl19 (Kd.C_below hC20 hbe) hl20 HW.out).mono ?_
  rintro e w3 ⟨rfl, hb⟩
  have HI3 := hid (HI1.out.grow hb)
  clear hb hbe hC hl hC0 hl0 hC9 hl9 hC19 hl19 hC20 hl20 hld HI1
  cases b with
  | true =>
    go_wp2_with (first | (go_at_call 14; refine (lives_any _).mono ?_; rintro e w9 ⟨rfl, hb⟩))
    refine bodyPost_ret (v := .bool true) (by simp [results, Try.results6, go_sem]) rfl ⟨rfl, HI3.out.be.trans (hb.mono HI3.out.be.size)⟩
  | false =>
  have p0 := blkCell HI3.out.hb 0
  have p1 := blkCell HI3.out.hb 1
  have p2 := blkCell HI3.out.hb 2
  have q0 := blkCell HI3.out.ha 0
  have q1 := blkCell HI3.out.ha 1
  have q2 := blkCell HI3.out.ha 2
  have q3 := blkCell HI3.out.ha 3
  have q4 := blkCell HI3.out.ha 4
  simp at p0 p1 p2 q0 q1 q2 q3 q4
  have hth := (hw rfl).1
  have hth9 := (hw rfl).2
  have hll : l.length ≤ 40 := by have := HG.out; simp at this; omega
  clear hw
  have HL := hid (And.intro hth (And.intro hll hth9))
  clear hth hll hth9
  go_wp2_with fail
  obtain ⟨hC, hl, hC0, hl0, hC9, hl9, hC19, hl19, hC20, hl20⟩ := HC.out
  refine (Needed_any A c l fl tg a1 a2 a3 a4 _ (Kd.C_below hC HI3.out.be)).mono ?_
  rintro e w4 ⟨v, rfl, hv, hb⟩
  have HI4 := hid (HI3.out.grow hb)
  clear hb hC hl hC0 hl0 hC9 hl9 hC19 hl19 hC20 hl20 p0 p1 p2 q0 q1 q2 q3 q4 HI3
  by_cases hz : ¬ loadedOf l fl tg a1 a2 a3 a4 = 0
  · have hnr : neededRes l fl tg a1 a2 a3 a4 = ([], loadedOf l fl tg a1 a2 a3 a4) := by unfold neededRes; rw [if_neg hz]
    rw [hnr] at hv
    rw [hnr]
    obtain ⟨Ad, cd, rfl⟩ := Kd.R_slice hv
    clear hnr hv
    simp only [List.length_nil]
    generalize loadedOf l fl tg a1 a2 a3 a4 = ek at *
    have hzb : (ek != 0) = true := by simpa using hz
    go_wp2_with (first | (go_at_call 14; refine (lives_any _).mono ?_; rintro e w7 ⟨rfl, hb⟩))
    refine bodyPost_ret (v := .bool true) (by simp [results, Try.results6, go_sem]) rfl ⟨rfl, HI4.out.be.trans (hb.mono (HI4.out.be).size)⟩
  have hz' := Decidable.not_not.1 hz
  have hnr : neededRes l fl tg a1 a2 a3 a4 = (needOf l fl tg a1 a2 a3 a4, 0) := by unfold neededRes; rw [if_pos hz']
  rw [hnr] at hv
  rw [hnr]
  obtain ⟨Ad, cd, rfl⟩ := Kd.R_slice hv
  have hCn := (Kd.R_reads' hv).2.2
  have HZ := hid hz'
  clear hnr hv hz hz'
  obtain ⟨nd, hnd⟩ : ∃ x, needOf l fl tg a1 a2 a3 a4 = x := ⟨_, rfl⟩
  rw [hnd] at hCn
  rw [hnd]
  have hnl : nd.length = l.length := by rw [← hnd, need_len]
  have HND := hid (And.intro hnd hnl)
  have HCN := hid hCn
  clear hnd hnl hCn
  go_wp2
  go_loopw [7] (fun v7 X => ∃ k : Nat, k ≤ nd.length ∧ v7 = .int .i64 k ∧ Hid (Below w4.heap.size w4 X)) (fun v7 _ => nd.length - (intOf v7).toNat)
  case atStart => exact ⟨0, by omega, rfl, hid (Below.refl _ _)⟩
  case round =>
  obtain ⟨k, hk, rfl, HX⟩ := hrel
  by_cases hlt : k < nd.length
  · have hd : decide ((k : Int) < (nd.length : Int)) = true := decide_eq_true (by omega)
    rename World => Wk
    go_wp2
    clear hd
    have HK0 := hid (own_nil Wk Wk.heap.size 29 2)
    go_loopw [8, 9] (fun v8 v9 Y => ∃ n : Nat, n ≤ nd.length ∧ v9 = .int .i64 n ∧ Hid (Below Wk.heap.size Wk Y ∧ Y.ownsRow Wk.heap.size 29 2 v8 n (((thN nd).take n).flatMap spC))) (fun _ v9 _ => nd.length - (intOf v9).toNat)
    case atStart => exact ⟨0, by omega, rfl, hid ⟨Below.refl _ _, by simpa using HK0.out⟩⟩
    case round =>
    obtain ⟨n, hn, rfl, HY⟩ := hrel
    by_cases hltn : n < nd.length
    · have hd : decide ((n : Int) < (nd.length : Int)) = true := decide_eq_true (by omega)
      obtain ⟨an, hna, n0⟩ := Kd.at_int (Kd.C_below HCN.out (HX.out.trans (HY.out.1.mono HX.out.size))) n (by omega) (by omega)
      rw [rd_int hltn] at n0
      simp only [Int.toNat_natCast] at n0
      subst hna
      obtain ⟨m, hm⟩ : ∃ m, mx1 nd[n] = m := ⟨_, rfl⟩
      have HM := hid hm
      by_cases hlo : nd[n] < 1
      all_goals
        have hm2 := HM.out
        unfold mx1 at hm2
        first | rw [if_pos hlo] at hm2 | rw [if_neg hlo] at hm2
        go_wp2_with fail
        refine (thin_exact m _).mono ?_
        rintro e w6 ⟨rfl, hb⟩
        have HB6 := hid hb
        clear hb hlo hm2 n0
        go_wp2_with (at_builtin; refine Hid.out ?_)
        refine hid ?_
        obtain ⟨hbY, hO⟩ := HY.out
        have hgr := (Below.refl w6.heap.size w6).alloc (Nat.le_refl _) (.cells #[.int .i64 m, .int .i64 m] 29)
        have hnew := World.alloc_heap_new w6 (.cells #[.int .i64 m, .int .i64 m] 29)
        have hB_ := HB6.out.trans (hgr.mono HB6.out.size)
        generalize w6.alloc (Obj.cells #[.int .i64 m, .int .i64 m] 29) = W6 at *
        obtain ⟨i0, hi, hz0, hz1, hz2⟩ := info29'
        refine wpList_append_own W6 rfl _ _ 25 rfl Wk.heap.size 29 i0 _ 2 16 Try.underlying25 hi hz0 hz1 hz2 rfl (by decide) u8 n _ rfl (rings_set hO hB_) ⟨w6.heap.size, 0, none⟩ 1 1 [.int .i64 m, .int .i64 m] rfl rfl (two_cells hnew) (by simp [Value.oneCell']) (by have := HL.out.2.1; have := HND.out.2; unfold maxLen; omega) (by have := HL.out.2.1; have := HND.out.2; omega) (Nat.le_trans hbY.size hB_.size) ?_
        intro v' w8 hown' hgrow _
        have g3 := (hbY.trans (hB_.mono hbY.size)).grown hgrow (by have := hB_.size; have := hbY.size; omega) (fun j hj => own_base (rings_set hO hB_) hj (Nat.le_refl _))
        have hown2 : w8.ownsRow Wk.heap.size 29 2 v' (n + 1) (((thN nd).take (n + 1)).flatMap spC) := by
          rw [List.take_succ_eq_append_getElem (by rw [thN_len]; exact hltn), List.flatMap_append]
          simp only [thN, List.getElem_map, HM.out] at hown' ⊢
          simpa [spC] using hown'
        have HY2 := hid (And.intro g3 hown2)
        have rk : wrap64 ((n : Int) + 1) = ((n + 1 : Nat) : Int) := by rw [wrap64_id (by omega) (by have := HL.out.2.1; have := HND.out.2; omega)]; simp
        clear g3 hown2 hown' hgrow hnew hgr hbY hO hB_ hi hz0 hz1 hz2 HB6
        go_wp2
        simp only [rk]
        clear rk
        go_roundw
        case rel => exact ⟨n + 1, by omega, rfl, HY2⟩
        case measure => simp [intOf]; omega
    · have hd : decide ((n : Int) < (nd.length : Int)) = false := decide_eq_false (by omega)
      obtain rfl : n = nd.length := by omega
      obtain ⟨hbY, hO⟩ := HY.out
      rw [← thN_len nd, List.take_length] at hO
      have hsl : ∃ g cap, u8 = .slice (some ⟨g, 0, none⟩) (thN nd).length cap ∧ Wk.heap.size ≤ g := by
        rcases hO.2 with ⟨_, h⟩ | ⟨g, cap, cur, h, hg, _⟩
        · rw [thN_len] at h; omega
        · exact ⟨g, cap, h, hg⟩
      obtain ⟨g, cap, rfl, hgW⟩ := hsl
      have hR1 := R29_of (l := thN nd) (f := fun x => x) hO
      rw [List.map_id'] at hR1
      have hC3 := (Kd.R_reads' hR1).2.2
      have hBW := HX.out.trans (hbY.mono HX.out.size)
      have hIr := HI4.out.grow hBW
      have HT := hid (And.intro hC3 (And.intro hO (And.intro hgW hBW)))
      have hnl2 := thN_len nd
      rw [hnl2]
      have p0 := blkCell hIr.hb 0
      have p1 := blkCell hIr.hb 1
      have p2 := blkCell hIr.hb 2
      have q0 := blkCell hIr.ha 0
      have q1 := blkCell hIr.ha 1
      have q2 := blkCell hIr.ha 2
      have q3 := blkCell hIr.ha 3
      have q4 := blkCell hIr.ha 4
      simp at p0 p1 p2 q0 q1 q2 q3 q4
      clear hIr hC3 hO hR1 hgW hBW hbY hn
      go_wp2_with fail
      have hst := Stress_any A c l fl tg (some ⟨g, 0, none⟩) cap (thN nd) a1 a2 a3 a4 wr (Kd.C_below HC.out.1 (HI4.out.be.trans (HT.out.2.2.2.mono HI4.out.be.size))) HT.out.1 (by have := HL.out.2.1; have := HND.out.2; rw [thN_len]; omega) (by have := HL.out.2.1; omega)
      rw [hnl2] at hst
      refine hst.mono ?_
      rintro e w7 ⟨x4, rfl, hv4, hb⟩
      have hok1 : askedOf l fl tg (thN nd) a1 a2 a3 a4 = 0 := by rw [← HND.out.1]; exact thN_ok HZ.out
      obtain ⟨hsn, hse⟩ := stress_len hok1
      rw [hse]
      obtain ⟨A4, c4, rfl, hC4, hl4⟩ := row_open hv4
      have hlt4 : k < (stressRes l fl tg (thN nd) a1 a2 a3 a4).1.length := by have := HND.out.2; omega
      have hfst : 0 < nd[k] → (stressRes l fl tg (thN nd) a1 a2 a3 a4).1[k].f1 ≤ limitOf fl tg := by
        have h := HND.out.1
        subst h
        exact fun h => thin_first HZ.out hlt h hlt4
      have hnn : 0 ≤ (stressRes l fl tg (thN nd) a1 a2 a3 a4).1[k].f1 := by
        have := stress_get hok1 (k := k) (by have := HND.out.2; omega) (by rw [thN_len]; exact hlt) hlt4
        omega
      generalize (stressRes l fl tg (thN nd) a1 a2 a3 a4).1 = sl1 at *
      have kk : ((sl1.length : Int) != (nd.length : Int)) = false := by have := HND.out.2; simp; omega
      have HT7 := hid (And.intro (HT.out.2.2.2.trans (hb.mono HT.out.2.2.2.size)) (And.intro (rings_set HT.out.2.1 hb) HT.out.2.2.1))
      have HS7 := hid (And.intro hC4 (And.intro hfst hnn))
      clear hb hst hv4 hsn hse hC4 hl4 hfst hnn hok1 HT p0 p1 p2 q0 q1 q2 q3 q4
      go_wp2_with fail
      clear kk
      obtain ⟨hB7, hO7, hg7⟩ := HT7.out
      have hI7 := HI4.out.grow hB7
      obtain ⟨an, hna, n0⟩ := Kd.at_int (Kd.C_below HCN.out hB7) k (by omega) (by omega)
      rw [rd_int hlt] at n0
      have hs7 := at_T29 HS7.out.1 k (by omega) (by omega)
      rw [show rd_T29 sl1 (k : Int) = sl1[k] by simp [rd_T29, List.getD, hlt4]] at hs7
      simp only [Int.toNat_natCast] at n0 hs7
      obtain ⟨sa, hsa, _, s1⟩ := hs7
      subst hna
      subst hsa
      obtain ⟨_, _, _, _, _, v6, v7, v8, v9⟩ := check_zero (loaded_zero HZ.out).1
      have hCb := Kd.C_below HC.out.1 hI7.be
      have hlb := HC.out.2.1
      have hnn := HS7.out.2.2
      have hnd0 : 0 ≤ nd[k] ∧ nd[k] ≤ 2000 := by
        have h := HND.out.1
        subst h
        exact need_nn hlt
      have HC8 := hid (And.intro v6 (And.intro v8 v9))
      by_cases hpos : 0 < nd[k]
      · have hd : decide (0 < nd[k]) = true := decide_eq_true hpos
        have hfs := HS7.out.2.1 hpos
        refine wp_flow [[], [], [0, 1], [2, 0, 1], [3, 2, 0, 1], [4, 3, 2, 0, 1], [5, 4, 3, 2, 0, 1], [5, 4, 3, 2, 0, 1], [5, 4, 3, 2, 0, 1], [7, 5, 4, 3, 2, 0, 1, 8], [9, 7, 5, 4, 3, 2, 0, 1, 8], [10, 9, 7, 5, 4, 3, 2, 0, 1, 8], [6, 5, 4, 3, 2, 0, 1, 11, 10, 9, 7, 8], [12, 6, 5, 4, 3, 2, 0, 1, 11, 10, 9, 7, 8], [5, 4, 3, 2, 0, 1, 13, 12, 6, 11, 10, 9, 7, 8]] 15
          (fun V => V.cell? ⟨W.heap.size, 0, none⟩ = some (.slice A l.length c) ∧ V.cell? ⟨W.heap.size, 1, none⟩ = some (.int .i64 fl) ∧ V.cell? ⟨W.heap.size, 2, none⟩ = some (.int .i64 tg) ∧ V.cell? (an.add k) = some (.int .i64 nd[k]) ∧ V.cell? ⟨(sa.add (k * 2)).block, (sa.add (k * 2)).off + 1, none⟩ = some (.int .i64 sl1[k].f1) ∧ Below w7.heap.size w7 V)
          { tmps := #[.agg #[.slice A l.length c, .int .i64 fl, .int .i64 tg], .agg #[.slice A0 l0.length c0, .int .i64 a1, .int .i64 a2, .int .i64 a3, .int .i64 a4, .int .i64 a5, .int .i64 a6, .int .i64 a7, .int .i64 a8, .slice A9 l9.length c9, .int .i64 a10, .int .i64 a11, .int .i64 a12, .int .i64 a13, .int .i64 a14, .int .i64 a15, .int .i64 a16, .int .i64 a17, .int .i64 a18, .slice A19 l19.length c19, .slice A20 l20.length c20], .pointer (some ⟨W.heap.size, 0, none⟩), .pointer (some ⟨(W.heap.size + 1), 0, none⟩), u4, .slice (some an) nd.length cd, .int .i64 0, .int .i64 k, .slice (some ⟨g, 0, none⟩) nd.length cap, .int .i64 nd.length, .slice (some sa) sl1.length c4, .int .i64 0, .agg #[.slice A l.length c, .int .i64 fl, .int .i64 tg], .bool false, .bool false, .agg #[.slice A0 l0.length c0, .int .i64 a1, .int .i64 a2, .int .i64 a3, .int .i64 a4, .int .i64 a5, .int .i64 a6, .int .i64 a7, .int .i64 a8, .slice A9 l9.length c9, .int .i64 a10, .int .i64 a11, .int .i64 a12, .int .i64 a13, .int .i64 a14, .int .i64 a15, .int .i64 a16, .int .i64 a17, .int .i64 a18, .slice A19 l19.length c19, .slice A20 l20.length c20], .bool false, .bool false, undef, .tuple #[.slice (some an) nd.length cd, .int .i64 0], .agg #[.slice A l.length c, .int .i64 fl, .int .i64 tg], .pointer (some ⟨W.heap.size + 1, 1, none⟩), .agg #[.int .i64 a1, .int .i64 a2, .int .i64 a3, .int .i64 a4], .tuple #[.slice (some an) nd.length cd, .int .i64 0], .slice (some an) nd.length cd, .int .i64 0, .int .i64 0, .bool false, undef, undef, undef, undef, undef, undef, .int .i64 k, .slice (some an) nd.length cd, .int .i64 nd.length, .bool true, u38, u39, .int .i64 nd.length, .slice (some an) nd.length cd, .int .i64 nd.length, .bool false, u44, u45, u46, u47, u48, u49, u50, u51, u52, u53, u54, .tuple #[.slice (some sa) sl1.length c4, .int .i64 0], .agg #[.slice A l.length c, .int .i64 fl, .int .i64 tg], .slice (some ⟨g, 0, none⟩) nd.length cap, .pointer (some ⟨W.heap.size + 1, 1, none⟩), .agg #[.int .i64 a1, .int .i64 a2, .int .i64 a3, .int .i64 a4], .tuple #[.slice (some sa) sl1.length c4, .int .i64 0], .slice (some sa) sl1.length c4, .int .i64 0, .int .i64 0, .bool false, .bool false, .slice (some sa) sl1.length c4, .int .i64 sl1.length, .slice (some an) nd.length cd, .int .i64 nd.length, .bool false, .bool false, .slice (some an) nd.length cd, .int .i64 k, .pointer (some (an.add k)), .int .i64 (nd[k]), .bool true, .bool true, .agg #[.slice A l.length c, .int .i64 fl, .int .i64 tg], .slice (some sa) sl1.length c4, .int .i64 k, .pointer (some (sa.add (k * 2))), .pointer (some ⟨(sa.add (k * 2)).block, (sa.add (k * 2)).off + 1, none⟩), .int .i64 (sl1[k].f1), .bool true, .bool false, .bool false, u87, u88, u89, u90, u91, u92, u93, u94, u95, u96, u97, u98, u99, u100, u101, u102, u103, u104, u105, u106, u107, u108, u109, u110, u111, u112, u113, u114, u115, u116, u117, u118, u119, u120, u121, u122, u123, u124, u125, u126, u127, u128, undef], defers := [] }
          mixed (by kernel_rfl) rfl (Ahead.of3 72 87 rfl rfl (by kernel_rfl) rfl rfl) ?_ (AllFlow.ops rfl ?_) rfl ?_
        · exact ⟨blkCell hI7.hb 0, blkCell hI7.hb 1, blkCell hI7.hb 2, n0, s1, (Below.refl _ _).drew⟩
        · refine ⟨?_, ?_, ?_, ?_, ?_, ?_, ?_, ?_, ?_, ?_, ?_, ?_, ?_, ?_, ?_, trivial⟩
          · exact .val 72 _ rfl rfl fun V ⟨y0, y1, y2, x0, x1, hB_⟩ => by go_simp <;> exact IntWalk.i64_left _
          · exact .val 73 _ rfl rfl fun V ⟨y0, y1, y2, x0, x1, hB_⟩ => by go_simp <;> exact IntWalk.i64_left _
          · exact .val 74 _ rfl rfl fun V ⟨y0, y1, y2, x0, x1, hB_⟩ => by go_simp <;> exact IntWalk.i64_left _
          · exact .val 75 _ rfl rfl fun V ⟨y0, y1, y2, x0, x1, hB_⟩ => by go_simp <;> exact IntWalk.i64_left _
          · exact .val 76 _ rfl rfl fun V ⟨y0, y1, y2, x0, x1, hB_⟩ => by go_simp <;> exact IntWalk.i64_left _
          · exact .val 77 _ rfl rfl fun V ⟨y0, y1, y2, x0, x1, hB_⟩ => by go_simp <;> exact IntWalk.i64_left _
          · exact .val 78 _ rfl rfl fun V ⟨y0, y1, y2, x0, x1, hB_⟩ => by go_simp <;> exact IntWalk.i64_left _
          · exact .val 79 _ rfl rfl fun V ⟨y0, y1, y2, x0, x1, hB_⟩ => by go_simp <;> exact IntWalk.i64_left _
          · exact .val 80 _ rfl rfl fun V ⟨y0, y1, y2, x0, x1, hB_⟩ => by go_simp <;> exact IntWalk.i64_left _
          · exact .val 81 _ rfl rfl fun V ⟨y0, y1, y2, x0, x1, hB_⟩ => by go_simp <;> exact IntWalk.i64_left _
          · exact .val 82 _ rfl rfl fun V ⟨y0, y1, y2, x0, x1, hB_⟩ => by go_simp <;> exact IntWalk.i64_left _
          · exact .val 83 _ rfl rfl fun V ⟨y0, y1, y2, x0, x1, hB_⟩ => by go_simp <;> exact IntWalk.i64_left _
          · refine .call 84 (.bool true) 34 #[.agg #[.slice A l.length c, .int .i64 fl, .int .i64 tg], .int .i64 (sl1[k].f1)] rfl rfl (fun V ⟨y0, y1, y2, x0, x1, hB_⟩ => by go_simp) fun V ⟨y0, y1, y2, x0, x1, hB_⟩ => ?_
            refine (bears_yes A c l fl tg sl1[k].f1 _ (Kd.C_below hCb hB_) hlb v6 v8 v9 hnn hfs).mono ?_
            rintro e w' ⟨rfl, hb⟩
            exact ⟨rfl, cell_grow y0 hb, cell_grow y1 hb, cell_grow y2 hb, cell_growp x0 hb, cell_growp x1 hb, hB_.trans (hb.mono hB_.size)⟩
          · exact .val 85 _ rfl rfl fun V ⟨y0, y1, y2, x0, x1, hB_⟩ => by go_simp <;> exact IntWalk.i64_left _
          · exact .val 86 _ rfl rfl fun V ⟨y0, y1, y2, x0, x1, hB_⟩ => by go_simp <;> exact IntWalk.i64_left _
        · rintro W17 ⟨y0, y1, y2, x0, x1, hB_⟩
          have HB17 := hid hB_
          have hbW := hB7.trans (hB_.mono hB7.size)
          have HBW := hid hbW
          have hO17 := rings_set hO7 hB_
          clear y0 y1 y2 x1 hB_ n0 s1 hI7 hCb hlb hnn hd hfs
          by_cases h1 : nd[k] = 1
          · have s2 : (nd[k] == 1) = true := by simpa using h1
            have rk : wrap64 ((k : Int) + 1) = ((k + 1 : Nat) : Int) := by rw [wrap64_id (by omega) (by have := HL.out.2.1; have := HND.out.2; omega)]; simp
            clear hO17 hbW
            go_wp2
            simp only [rk]
            clear rk
            go_roundw
            case rel => exact ⟨k + 1, by omega, rfl, HBW⟩
            case measure => simp [intOf]; omega
          have s2 : (nd[k] == 1) = false := by simpa using h1
          have hw : wrap64 (nd[k] - 1) = nd[k] - 1 := wrap64_id (by omega) (by omega)
          have HO17 := hid hO17
          clear hO17 hbW
          go_wp2_with fail
          refine (thin_exact (nd[k] - 1) _).mono ?_
          rintro e w18 ⟨rfl, hb⟩
          have HB18 := hid (HBW.out.trans (hb.mono HBW.out.size))
          have HO18 := hid (rings_set HO17.out hb)
          clear hb HO17
          obtain ⟨cur, hh, hcs1⟩ : ∃ cur, w18.heap[g]? = some (.cells cur 29 (0, 0)) ∧ nd.length * 2 ≤ cur.size := by
            rcases HO18.out.2 with ⟨h, _⟩ | ⟨g', cap', cur, h, _, hh, hcap, _, hsz, _⟩
            · cases h
            · cases h
              exact ⟨cur, hh, by rw [thN_len] at hcap; omega⟩
          have z0 := blkCell hh (k * 2)
          have z1 := blkCell hh (k * 2 + 1)
          have z2 := blkFrozen hh (k * 2)
          have z3 := blkFrozen hh (k * 2 + 1)
          rw [Array.getElem?_eq_getElem (show k * 2 < cur.size by omega)] at z0
          rw [Array.getElem?_eq_getElem (show k * 2 + 1 < cur.size by omega)] at z1
          generalize cur[k * 2]'(by omega) = o0 at z0
          generalize cur[k * 2 + 1]'(by omega) = o1 at z1
          clear hh hcs1
          go_wp2_with (with_reducible refine gate_ix (x := .tmp 101) (y := .tmp 102) rfl ?_; refine Hid.out ?_)
          refine hid ?_
          have hO19 := own_set (own_set HO18.out (j := k * 2) (.int .i64 (nd[k] - 1))) (j := k * 2 + 1) (.int .i64 (nd[k] - 1))
          have hcs := cells_set (thN nd) k (nd[k] - 1) (nd[k] - 1)
          rw [Nat.mul_comm 2 k] at hcs
          rw [hcs] at hO19
          have hg4 : w4.heap.size ≤ g := Nat.le_trans HX.out.size hg7
          have hB19 := (HB18.out.setCell (p := ⟨g, k * 2, none⟩) (by simpa using hg4) (.int .i64 (nd[k] - 1))).setCell (p := ⟨g, k * 2 + 1, none⟩) (by simpa using hg4) (.int .i64 (nd[k] - 1))
          clear z0 z1 z2 z3 hcs x0
          generalize (w18.setCell ⟨g, k * 2, none⟩ (.int .i64 (nd[k] - 1))).setCell ⟨g, k * 2 + 1, none⟩ (.int .i64 (nd[k] - 1)) = W19 at *
          have HO19 := hid hO19
          have HB19 := hid hB19
          have n0 : W19.cell? (an.add k) = some (.int .i64 nd[k]) := by
            obtain ⟨an', hna', n0⟩ := Kd.at_int (Kd.C_below HCN.out hB19) k (by omega) (by omega)
            cases hna'
            rw [rd_int hlt] at n0
            simpa using n0
          clear hO19 hB19
          have h0 : ¬ nd[k] = 0 := by omega
          have s3 : (nd[k] == 0) = false := by simpa using h0
          have hB21 := HB19.out
          have hO21 := HO19.out
          have hl1 : (⟨nd[k] - 1, nd[k] - 1⟩ : S29) = ⟨less1 nd[k], less1 nd[k]⟩ := by unfold less1; rw [if_neg h0]
          rw [hl1] at hO21
          have hR := R29_of (l := ((thN nd).set k ⟨less1 nd[k], less1 nd[k]⟩)) (f := fun x => x) (by rw [List.length_set]; exact hO21)
          rw [List.map_id'] at hR
          have hC3 := (Kd.R_reads' hR).2.2
          have hIx := HI4.out.grow hB21
          have HBx := hid hB21
          have HC3 := hid hC3
          have p0 := blkCell hIx.hb 0
          have p1 := blkCell hIx.hb 1
          have p2 := blkCell hIx.hb 2
          have q0 := blkCell hIx.ha 0
          have q1 := blkCell hIx.ha 1
          have q2 := blkCell hIx.ha 2
          have q3 := blkCell hIx.ha 3
          have q4 := blkCell hIx.ha 4
          simp at p0 p1 p2 q0 q1 q2 q3 q4
          clear hR hC3 hIx hO21 hl1 hB21
          go_wp2_with fail
          have hst := Stress_any A c l fl tg (some ⟨g, 0, none⟩) cap ((thN nd).set k ⟨less1 nd[k], less1 nd[k]⟩) a1 a2 a3 a4 _ (Kd.C_below HC.out.1 (HI4.out.be.trans (HBx.out.mono HI4.out.be.size))) HC3.out (by have := HL.out.2.1; have := HND.out.2; rw [List.length_set, thN_len]; omega) (by have := HL.out.2.1; omega)
          rw [List.length_set, hnl2] at hst
          refine hst.mono ?_
          rintro e w22 ⟨x5, rfl, hv5, hb⟩
          have hok2 : askedOf l fl tg ((thN nd).set k ⟨less1 nd[k], less1 nd[k]⟩) a1 a2 a3 a4 = 0 := by
            have h := HND.out.1
            subst h
            exact th1_ok HZ.out hlt h1
          obtain ⟨hsn, hse⟩ := stress_len hok2
          rw [hse]
          obtain ⟨A5, c5, rfl, hC5, hl5⟩ := row_open hv5
          have hlt5 : k < (stressRes l fl tg ((thN nd).set k ⟨less1 nd[k], less1 nd[k]⟩) a1 a2 a3 a4).1.length := by have := HND.out.2; omega
          have hsec : ¬ (stressRes l fl tg ((thN nd).set k ⟨less1 nd[k], less1 nd[k]⟩) a1 a2 a3 a4).1[k].f1 ≤ limitOf fl tg := by
            have h := HND.out.1
            subst h
            exact thin_second HZ.out hlt h1 rfl hlt5
          have hnn2 : 0 ≤ (stressRes l fl tg ((thN nd).set k ⟨less1 nd[k], less1 nd[k]⟩) a1 a2 a3 a4).1[k].f1 := by
            have := stress_get hok2 (k := k) (by have := HND.out.2; omega) (by rw [List.length_set, thN_len]; exact hlt) hlt5
            omega
          generalize (stressRes l fl tg ((thN nd).set k ⟨less1 nd[k], less1 nd[k]⟩) a1 a2 a3 a4).1 = sl2 at *
          have HB22 := hid (HBx.out.trans (hb.mono HBx.out.size))
          have HS22 := hid (And.intro hC5 (And.intro hsec hnn2))
          clear hb hst hv5 hsn hse hC5 hl5 hsec hnn2 hok2 HC3 HBx p0 p1 p2 q0 q1 q2 q3 q4
          go_wp2_with fail
          have hI22 := HI4.out.grow HB22.out
          have hs7 := at_T29 HS22.out.1 k (by omega) (by omega)
          rw [show rd_T29 sl2 (k : Int) = sl2[k] by simp [rd_T29, List.getD, hlt5]] at hs7
          simp only [Int.toNat_natCast] at hs7
          obtain ⟨sb, hsb, _, s1⟩ := hs7
          subst hsb
          have hCb := Kd.C_below HC.out.1 hI22.be
          have hlb := HC.out.2.1
          refine wp_flow [[], [0], [1, 0], [2, 1, 0], [2, 1, 0], [2, 1, 0], [4, 2, 1, 0, 5], [6, 4, 2, 1, 0, 5], [7, 6, 4, 2, 1, 0, 5], [3, 2, 1, 0, 8, 7, 6, 4, 5], [2, 1, 0, 9, 3, 8, 7, 6, 4, 5]] 11
            (fun V => V.cell? ⟨W.heap.size, 0, none⟩ = some (.slice A l.length c) ∧ V.cell? ⟨W.heap.size, 1, none⟩ = some (.int .i64 fl) ∧ V.cell? ⟨W.heap.size, 2, none⟩ = some (.int .i64 tg) ∧ V.cell? ⟨(sb.add (k * 2)).block, (sb.add (k * 2)).off + 1, none⟩ = some (.int .i64 sl2[k].f1) ∧ Below w22.heap.size w22 V)
            { tmps := #[.agg #[.slice A l.length c, .int .i64 fl, .int .i64 tg], .agg #[.slice A0 l0.length c0, .int .i64 a1, .int .i64 a2, .int .i64 a3, .int .i64 a4, .int .i64 a5, .int .i64 a6, .int .i64 a7, .int .i64 a8, .slice A9 l9.length c9, .int .i64 a10, .int .i64 a11, .int .i64 a12, .int .i64 a13, .int .i64 a14, .int .i64 a15, .int .i64 a16, .int .i64 a17, .int .i64 a18, .slice A19 l19.length c19, .slice A20 l20.length c20], .pointer (some ⟨W.heap.size, 0, none⟩), .pointer (some ⟨(W.heap.size + 1), 0, none⟩), u4, .slice (some an) nd.length cd, .int .i64 0, .int .i64 k, .slice (some ⟨g, 0, none⟩) nd.length cap, .int .i64 nd.length, .slice (some sb) sl2.length c5, .int .i64 0, .agg #[.slice A l.length c, .int .i64 fl, .int .i64 tg], .bool false, .bool false, .agg #[.slice A0 l0.length c0, .int .i64 a1, .int .i64 a2, .int .i64 a3, .int .i64 a4, .int .i64 a5, .int .i64 a6, .int .i64 a7, .int .i64 a8, .slice A9 l9.length c9, .int .i64 a10, .int .i64 a11, .int .i64 a12, .int .i64 a13, .int .i64 a14, .int .i64 a15, .int .i64 a16, .int .i64 a17, .int .i64 a18, .slice A19 l19.length c19, .slice A20 l20.length c20], .bool false, .bool false, undef, .tuple #[.slice (some an) nd.length cd, .int .i64 0], .agg #[.slice A l.length c, .int .i64 fl, .int .i64 tg], .pointer (some ⟨W.heap.size + 1, 1, none⟩), .agg #[.int .i64 a1, .int .i64 a2, .int .i64 a3, .int .i64 a4], .tuple #[.slice (some an) nd.length cd, .int .i64 0], .slice (some an) nd.length cd, .int .i64 0, .int .i64 0, .bool false, undef, undef, undef, undef, undef, undef, .int .i64 k, .slice (some an) nd.length cd, .int .i64 nd.length, .bool true, u38, u39, .int .i64 nd.length, .slice (some an) nd.length cd, .int .i64 nd.length, .bool false, u44, u45, u46, u47, u48, u49, u50, u51, u52, u53, u54, .tuple #[.slice (some sa) sl1.length c4, .int .i64 0], .agg #[.slice A l.length c, .int .i64 fl, .int .i64 tg], .slice (some ⟨g, 0, none⟩) nd.length cap, .pointer (some ⟨W.heap.size + 1, 1, none⟩), .agg #[.int .i64 a1, .int .i64 a2, .int .i64 a3, .int .i64 a4], .tuple #[.slice (some sa) sl1.length c4, .int .i64 0], .slice (some sa) sl1.length c4, .int .i64 0, .int .i64 0, .bool false, .bool false, .slice (some sa) sl1.length c4, .int .i64 sl1.length, .slice (some an) nd.length cd, .int .i64 nd.length, .bool false, .bool false, .slice (some an) nd.length cd, .int .i64 k, .pointer (some (an.add k)), .int .i64 nd[k], .bool true, .bool true, .agg #[.slice A l.length c, .int .i64 fl, .int .i64 tg], .slice (some sa) sl1.length c4, .int .i64 k, .pointer (some (sa.add (k * 2))), .pointer (some ⟨(sa.add (k * 2)).block, (sa.add (k * 2)).off + 1, none⟩), .int .i64 sl1[k].f1, .bool true, .bool false, .bool false, .slice (some an) nd.length cd, .int .i64 k, .pointer (some (an.add k)), .int .i64 nd[k], .bool false, .slice (some ⟨g, 0, none⟩) nd.length cap, .int .i64 k, .slice (some an) nd.length cd, .int .i64 k, .pointer (some (an.add k)), .int .i64 nd[k], .int .i64 (nd[k] - 1), .agg #[.int .i64 (nd[k] - 1), .int .i64 (nd[k] - 1)], .pointer (some ⟨g, k * 2, none⟩), .slice (some an) nd.length cd, .int .i64 k, .pointer (some (an.add k)), .int .i64 nd[k], .bool false, u106, u107, u108, u109, .tuple #[.slice (some sb) sl2.length c5, .int .i64 0], .agg #[.slice A l.length c, .int .i64 fl, .int .i64 tg], .slice (some ⟨g, 0, none⟩) nd.length cap, .pointer (some ⟨W.heap.size + 1, 1, none⟩), .agg #[.int .i64 a1, .int .i64 a2, .int .i64 a3, .int .i64 a4], .tuple #[.slice (some sb) sl2.length c5, .int .i64 0], .slice (some sb) sl2.length c5, .int .i64 0, .int .i64 0, .bool false, .bool false, .agg #[.slice A l.length c, .int .i64 fl, .int .i64 tg], .slice (some sb) sl2.length c5, .int .i64 k, .pointer (some (sb.add (k * 2))), .pointer (some ⟨(sb.add (k * 2)).block, (sb.add (k * 2)).off + 1, none⟩), .int .i64 (sl2[k].f1), .bool false, .bool false, undef], defers := [] }
            mixed (by kernel_rfl) rfl (Ahead.of3 118 129 rfl rfl (by kernel_rfl) rfl rfl) ?_ (AllFlow.ops rfl ?_) rfl ?_
          · exact ⟨blkCell hI22.hb 0, blkCell hI22.hb 1, blkCell hI22.hb 2, s1, (Below.refl _ _).drew⟩
          · refine ⟨?_, ?_, ?_, ?_, ?_, ?_, ?_, ?_, ?_, ?_, ?_, trivial⟩
            · exact .val 118 _ rfl rfl fun V ⟨y0, y1, y2, x0, hB_⟩ => by go_simp <;> exact IntWalk.i64_left _
            · exact .val 119 _ rfl rfl fun V ⟨y0, y1, y2, x0, hB_⟩ => by go_simp <;> exact IntWalk.i64_left _
            · exact .val 120 _ rfl rfl fun V ⟨y0, y1, y2, x0, hB_⟩ => by go_simp <;> exact IntWalk.i64_left _
            · exact .val 121 _ rfl rfl fun V ⟨y0, y1, y2, x0, hB_⟩ => by go_simp <;> exact IntWalk.i64_left _
            · exact .val 122 _ rfl rfl fun V ⟨y0, y1, y2, x0, hB_⟩ => by go_simp <;> exact IntWalk.i64_left _
            · exact .val 123 _ rfl rfl fun V ⟨y0, y1, y2, x0, hB_⟩ => by go_simp <;> exact IntWalk.i64_left _
            · exact .val 124 _ rfl rfl fun V ⟨y0, y1, y2, x0, hB_⟩ => by go_simp <;> exact IntWalk.i64_left _
            · exact .val 125 _ rfl rfl fun V ⟨y0, y1, y2, x0, hB_⟩ => by go_simp <;> exact IntWalk.i64_left _
            · exact .val 126 _ rfl rfl fun V ⟨y0, y1, y2, x0, hB_⟩ => by go_simp <;> exact IntWalk.i64_left _
            · refine .call 127 (.bool false) 34 #[.agg #[.slice A l.length c, .int .i64 fl, .int .i64 tg], .int .i64 (sl2[k].f1)] rfl rfl (fun V ⟨y0, y1, y2, x0, hB_⟩ => by go_simp) fun V ⟨y0, y1, y2, x0, hB_⟩ => ?_
              refine (bears_no A c l fl tg sl2[k].f1 _ (Kd.C_below hCb hB_) hlb HC8.out.1 HC8.out.2.1 HC8.out.2.2 HS22.out.2.2 (by have := HS22.out.2.1; omega)).mono ?_
              rintro e w' ⟨rfl, hb⟩
              exact ⟨rfl, cell_grow y0 hb, cell_grow y1 hb, cell_grow y2 hb, cell_growp x0 hb, hB_.trans (hb.mono hB_.size)⟩
            · exact .val 128 _ rfl rfl fun V ⟨y0, y1, y2, x0, hB_⟩ => by go_simp <;> exact IntWalk.i64_left _
          · rintro W24 ⟨y0, y1, y2, x0, hB_⟩
            have HB24 := hid (HB22.out.trans (hB_.mono HB22.out.size))
            have rk : wrap64 ((k : Int) + 1) = ((k + 1 : Nat) : Int) := by rw [wrap64_id (by omega) (by have := HL.out.2.1; have := HND.out.2; omega)]; simp
            clear y0 y1 y2 x0 hB_ s1 hI22 hCb hlb
            go_wp2
            simp only [rk]
            clear rk
            go_roundw
            case rel => exact ⟨k + 1, by omega, rfl, HB24⟩
            case measure => simp [intOf]; omega
      · have hd : decide (0 < nd[k]) = false := decide_eq_false hpos
        refine wp_flow [[], [], [0, 1], [2, 0, 1], [3, 2, 0, 1], [4, 3, 2, 0, 1], [5, 4, 3, 2, 0, 1], [5, 4, 3, 2, 0, 1], [5, 4, 3, 2, 0, 1], [7, 5, 4, 3, 2, 0, 1, 8], [9, 7, 5, 4, 3, 2, 0, 1, 8], [10, 9, 7, 5, 4, 3, 2, 0, 1, 8], [6, 5, 4, 3, 2, 0, 1, 11, 10, 9, 7, 8], [12, 6, 5, 4, 3, 2, 0, 1, 11, 10, 9, 7, 8], [5, 4, 3, 2, 0, 1, 13, 12, 6, 11, 10, 9, 7, 8]] 15
          (fun V => V.cell? ⟨W.heap.size, 0, none⟩ = some (.slice A l.length c) ∧ V.cell? ⟨W.heap.size, 1, none⟩ = some (.int .i64 fl) ∧ V.cell? ⟨W.heap.size, 2, none⟩ = some (.int .i64 tg) ∧ V.cell? (an.add k) = some (.int .i64 nd[k]) ∧ V.cell? ⟨(sa.add (k * 2)).block, (sa.add (k * 2)).off + 1, none⟩ = some (.int .i64 sl1[k].f1) ∧ Below w7.heap.size w7 V)
          { tmps := #[.agg #[.slice A l.length c, .int .i64 fl, .int .i64 tg], .agg #[.slice A0 l0.length c0, .int .i64 a1, .int .i64 a2, .int .i64 a3, .int .i64 a4, .int .i64 a5, .int .i64 a6, .int .i64 a7, .int .i64 a8, .slice A9 l9.length c9, .int .i64 a10, .int .i64 a11, .int .i64 a12, .int .i64 a13, .int .i64 a14, .int .i64 a15, .int .i64 a16, .int .i64 a17, .int .i64 a18, .slice A19 l19.length c19, .slice A20 l20.length c20], .pointer (some ⟨W.heap.size, 0, none⟩), .pointer (some ⟨(W.heap.size + 1), 0, none⟩), u4, .slice (some an) nd.length cd, .int .i64 0, .int .i64 k, .slice (some ⟨g, 0, none⟩) nd.length cap, .int .i64 nd.length, .slice (some sa) sl1.length c4, .int .i64 0, .agg #[.slice A l.length c, .int .i64 fl, .int .i64 tg], .bool false, .bool false, .agg #[.slice A0 l0.length c0, .int .i64 a1, .int .i64 a2, .int .i64 a3, .int .i64 a4, .int .i64 a5, .int .i64 a6, .int .i64 a7, .int .i64 a8, .slice A9 l9.length c9, .int .i64 a10, .int .i64 a11, .int .i64 a12, .int .i64 a13, .int .i64 a14, .int .i64 a15, .int .i64 a16, .int .i64 a17, .int .i64 a18, .slice A19 l19.length c19, .slice A20 l20.length c20], .bool false, .bool false, undef, .tuple #[.slice (some an) nd.length cd, .int .i64 0], .agg #[.slice A l.length c, .int .i64 fl, .int .i64 tg], .pointer (some ⟨W.heap.size + 1, 1, none⟩), .agg #[.int .i64 a1, .int .i64 a2, .int .i64 a3, .int .i64 a4], .tuple #[.slice (some an) nd.length cd, .int .i64 0], .slice (some an) nd.length cd, .int .i64 0, .int .i64 0, .bool false, undef, undef, undef, undef, undef, undef, .int .i64 k, .slice (some an) nd.length cd, .int .i64 nd.length, .bool true, u38, u39, .int .i64 nd.length, .slice (some an) nd.length cd, .int .i64 nd.length, .bool false, u44, u45, u46, u47, u48, u49, u50, u51, u52, u53, u54, .tuple #[.slice (some sa) sl1.length c4, .int .i64 0], .agg #[.slice A l.length c, .int .i64 fl, .int .i64 tg], .slice (some ⟨g, 0, none⟩) nd.length cap, .pointer (some ⟨W.heap.size + 1, 1, none⟩), .agg #[.int .i64 a1, .int .i64 a2, .int .i64 a3, .int .i64 a4], .tuple #[.slice (some sa) sl1.length c4, .int .i64 0], .slice (some sa) sl1.length c4, .int .i64 0, .int .i64 0, .bool false, .bool false, .slice (some sa) sl1.length c4, .int .i64 sl1.length, .slice (some an) nd.length cd, .int .i64 nd.length, .bool false, .bool false, .slice (some an) nd.length cd, .int .i64 k, .pointer (some (an.add k)), .int .i64 (nd[k]), .bool false, .bool false, undef, undef, undef, undef, undef, undef, undef, undef, .bool false, u87, u88, u89, u90, u91, u92, u93, u94, u95, u96, u97, u98, u99, u100, u101, u102, u103, u104, u105, u106, u107, u108, u109, u110, u111, u112, u113, u114, u115, u116, u117, u118, u119, u120, u121, u122, u123, u124, u125, u126, u127, u128, undef], defers := [] }
          mixed (by kernel_rfl) rfl (Ahead.of3 72 87 rfl rfl (by kernel_rfl) rfl rfl) ?_ (AllFlow.ops rfl ?_) rfl ?_
        · exact ⟨blkCell hI7.hb 0, blkCell hI7.hb 1, blkCell hI7.hb 2, n0, s1, (Below.refl _ _).drew⟩
        · refine ⟨?_, ?_, ?_, ?_, ?_, ?_, ?_, ?_, ?_, ?_, ?_, ?_, ?_, ?_, ?_, trivial⟩
          · exact .val 72 _ rfl rfl fun V ⟨y0, y1, y2, x0, x1, hB_⟩ => by go_simp <;> exact IntWalk.i64_left _
          · exact .val 73 _ rfl rfl fun V ⟨y0, y1, y2, x0, x1, hB_⟩ => by go_simp <;> exact IntWalk.i64_left _
          · exact .val 74 _ rfl rfl fun V ⟨y0, y1, y2, x0, x1, hB_⟩ => by go_simp <;> exact IntWalk.i64_left _
          · exact .val 75 _ rfl rfl fun V ⟨y0, y1, y2, x0, x1, hB_⟩ => by go_simp <;> exact IntWalk.i64_left _
          · exact .val 76 _ rfl rfl fun V ⟨y0, y1, y2, x0, x1, hB_⟩ => by go_simp <;> exact IntWalk.i64_left _
          · exact .val 77 _ rfl rfl fun V ⟨y0, y1, y2, x0, x1, hB_⟩ => by go_simp <;> exact IntWalk.i64_left _
          · exact .off 78 rfl rfl
          · exact .off 79 rfl rfl
          · exact .off 80 rfl rfl
          · exact .off 81 rfl rfl
          · exact .off 82 rfl rfl
          · exact .off 83 rfl rfl
          · exact .off 84 rfl rfl
          · exact .off 85 rfl rfl
          · exact .val 86 _ rfl rfl fun V ⟨y0, y1, y2, x0, x1, hB_⟩ => by go_simp <;> exact IntWalk.i64_left _
        · rintro W17 ⟨y0, y1, y2, x0, x1, hB_⟩
          have HB17 := hid hB_
          have hbW := hB7.trans (hB_.mono hB7.size)
          have HBW := hid hbW
          have hO17 := rings_set hO7 hB_
          clear y0 y1 y2 x1 hB_ n0 s1 hI7 hCb hlb hnn hd 
          have h1 : ¬ nd[k] = 1 := by omega
          have s2 : (nd[k] == 1) = false := by simpa using h1
          have hw : wrap64 (nd[k] - 1) = nd[k] - 1 := wrap64_id (by omega) (by omega)
          have HO17 := hid hO17
          clear hO17 hbW
          go_wp2_with fail
          refine (thin_exact (nd[k] - 1) _).mono ?_
          rintro e w18 ⟨rfl, hb⟩
          have HB18 := hid (HBW.out.trans (hb.mono HBW.out.size))
          have HO18 := hid (rings_set HO17.out hb)
          clear hb HO17
          obtain ⟨cur, hh, hcs1⟩ : ∃ cur, w18.heap[g]? = some (.cells cur 29 (0, 0)) ∧ nd.length * 2 ≤ cur.size := by
            rcases HO18.out.2 with ⟨h, _⟩ | ⟨g', cap', cur, h, _, hh, hcap, _, hsz, _⟩
            · cases h
            · cases h
              exact ⟨cur, hh, by rw [thN_len] at hcap; omega⟩
          have z0 := blkCell hh (k * 2)
          have z1 := blkCell hh (k * 2 + 1)
          have z2 := blkFrozen hh (k * 2)
          have z3 := blkFrozen hh (k * 2 + 1)
          rw [Array.getElem?_eq_getElem (show k * 2 < cur.size by omega)] at z0
          rw [Array.getElem?_eq_getElem (show k * 2 + 1 < cur.size by omega)] at z1
          generalize cur[k * 2]'(by omega) = o0 at z0
          generalize cur[k * 2 + 1]'(by omega) = o1 at z1
          clear hh hcs1
          go_wp2_with (with_reducible refine gate_ix (x := .tmp 101) (y := .tmp 102) rfl ?_; refine Hid.out ?_)
          refine hid ?_
          have hO19 := own_set (own_set HO18.out (j := k * 2) (.int .i64 (nd[k] - 1))) (j := k * 2 + 1) (.int .i64 (nd[k] - 1))
          have hcs := cells_set (thN nd) k (nd[k] - 1) (nd[k] - 1)
          rw [Nat.mul_comm 2 k] at hcs
          rw [hcs] at hO19
          have hg4 : w4.heap.size ≤ g := Nat.le_trans HX.out.size hg7
          have hB19 := (HB18.out.setCell (p := ⟨g, k * 2, none⟩) (by simpa using hg4) (.int .i64 (nd[k] - 1))).setCell (p := ⟨g, k * 2 + 1, none⟩) (by simpa using hg4) (.int .i64 (nd[k] - 1))
          clear z0 z1 z2 z3 hcs x0
          generalize (w18.setCell ⟨g, k * 2, none⟩ (.int .i64 (nd[k] - 1))).setCell ⟨g, k * 2 + 1, none⟩ (.int .i64 (nd[k] - 1)) = W19 at *
          have HO19 := hid hO19
          have HB19 := hid hB19
          have n0 : W19.cell? (an.add k) = some (.int .i64 nd[k]) := by
            obtain ⟨an', hna', n0⟩ := Kd.at_int (Kd.C_below HCN.out hB19) k (by omega) (by omega)
            cases hna'
            rw [rd_int hlt] at n0
            simpa using n0
          clear hO19 hB19
          have h0 : nd[k] = 0 := by omega
          have s3 : (nd[k] == 0) = true := by simpa using h0
          go_wp2_with fail
          refine (thin_exact 2000 _).mono ?_
          rintro e w20 ⟨rfl, hb⟩
          have HB20 := hid (HB19.out.trans (hb.mono HB19.out.size))
          have HO20 := hid (rings_set HO19.out hb)
          clear hb HO19 HB19 n0 s3
          obtain ⟨cur, hh, hcs1⟩ : ∃ cur, w20.heap[g]? = some (.cells cur 29 (0, 0)) ∧ nd.length * 2 ≤ cur.size := by
            rcases HO20.out.2 with ⟨h, _⟩ | ⟨g', cap', cur, h, _, hh, hcap, _, hsz, _⟩
            · cases h
            · cases h
              exact ⟨cur, hh, by rw [thN_len] at hcap; omega⟩
          have z0 := blkCell hh (k * 2)
          have z1 := blkCell hh (k * 2 + 1)
          have z2 := blkFrozen hh (k * 2)
          have z3 := blkFrozen hh (k * 2 + 1)
          rw [Array.getElem?_eq_getElem (show k * 2 < cur.size by omega)] at z0
          rw [Array.getElem?_eq_getElem (show k * 2 + 1 < cur.size by omega)] at z1
          generalize cur[k * 2]'(by omega) = o0 at z0
          generalize cur[k * 2 + 1]'(by omega) = o1 at z1
          clear hh hcs1
          go_wp2_with (with_reducible refine gate_ld (t := 24) (x := .tmp 2) rfl ?_; refine Hid.out ?_)
          refine hid ?_
          have hO21 := own_set (own_set HO20.out (j := k * 2) (.int .i64 2000)) (j := k * 2 + 1) (.int .i64 2000)
          have hcs := cells_set ((thN nd).set k ⟨nd[k] - 1, nd[k] - 1⟩) k 2000 2000
          rw [Nat.mul_comm 2 k] at hcs
          rw [hcs, List.set_set] at hO21
          have hB21 := (HB20.out.setCell (p := ⟨g, k * 2, none⟩) (by simpa using hg4) (.int .i64 2000)).setCell (p := ⟨g, k * 2 + 1, none⟩) (by simpa using hg4) (.int .i64 2000)
          clear z0 z1 z2 z3 hcs
          generalize (w20.setCell ⟨g, k * 2, none⟩ (.int .i64 2000)).setCell ⟨g, k * 2 + 1, none⟩ (.int .i64 2000) = W21 at *
          have hl1 : (⟨2000, 2000⟩ : S29) = ⟨less1 nd[k], less1 nd[k]⟩ := by rw [h0]; rfl
          rw [hl1] at hO21
          have hR := R29_of (l := ((thN nd).set k ⟨less1 nd[k], less1 nd[k]⟩)) (f := fun x => x) (by rw [List.length_set]; exact hO21)
          rw [List.map_id'] at hR
          have hC3 := (Kd.R_reads' hR).2.2
          have hIx := HI4.out.grow hB21
          have HBx := hid hB21
          have HC3 := hid hC3
          have p0 := blkCell hIx.hb 0
          have p1 := blkCell hIx.hb 1
          have p2 := blkCell hIx.hb 2
          have q0 := blkCell hIx.ha 0
          have q1 := blkCell hIx.ha 1
          have q2 := blkCell hIx.ha 2
          have q3 := blkCell hIx.ha 3
          have q4 := blkCell hIx.ha 4
          simp at p0 p1 p2 q0 q1 q2 q3 q4
          clear hR hC3 hIx hO21 hl1 hB21
          go_wp2_with fail
          have hst := Stress_any A c l fl tg (some ⟨g, 0, none⟩) cap ((thN nd).set k ⟨less1 nd[k], less1 nd[k]⟩) a1 a2 a3 a4 _ (Kd.C_below HC.out.1 (HI4.out.be.trans (HBx.out.mono HI4.out.be.size))) HC3.out (by have := HL.out.2.1; have := HND.out.2; rw [List.length_set, thN_len]; omega) (by have := HL.out.2.1; omega)
          rw [List.length_set, hnl2] at hst
          refine hst.mono ?_
          rintro e w22 ⟨x5, rfl, hv5, hb⟩
          have hok2 : askedOf l fl tg ((thN nd).set k ⟨less1 nd[k], less1 nd[k]⟩) a1 a2 a3 a4 = 0 := by
            have h := HND.out.1
            subst h
            exact th1_ok HZ.out hlt h1
          obtain ⟨hsn, hse⟩ := stress_len hok2
          rw [hse]
          obtain ⟨A5, c5, rfl, hC5, hl5⟩ := row_open hv5
          have hlt5 : k < (stressRes l fl tg ((thN nd).set k ⟨less1 nd[k], less1 nd[k]⟩) a1 a2 a3 a4).1.length := by have := HND.out.2; omega
          have hsec : ¬ (stressRes l fl tg ((thN nd).set k ⟨less1 nd[k], less1 nd[k]⟩) a1 a2 a3 a4).1[k].f1 ≤ limitOf fl tg := by
            have h := HND.out.1
            subst h
            exact thin_second HZ.out hlt h1 rfl hlt5
          have hnn2 : 0 ≤ (stressRes l fl tg ((thN nd).set k ⟨less1 nd[k], less1 nd[k]⟩) a1 a2 a3 a4).1[k].f1 := by
            have := stress_get hok2 (k := k) (by have := HND.out.2; omega) (by rw [List.length_set, thN_len]; exact hlt) hlt5
            omega
          generalize (stressRes l fl tg ((thN nd).set k ⟨less1 nd[k], less1 nd[k]⟩) a1 a2 a3 a4).1 = sl2 at *
          have HB22 := hid (HBx.out.trans (hb.mono HBx.out.size))
          have HS22 := hid (And.intro hC5 (And.intro hsec hnn2))
          clear hb hst hv5 hsn hse hC5 hl5 hsec hnn2 hok2 HC3 HBx p0 p1 p2 q0 q1 q2 q3 q4
          go_wp2_with fail
          have hI22 := HI4.out.grow HB22.out
          have hs7 := at_T29 HS22.out.1 k (by omega) (by omega)
          rw [show rd_T29 sl2 (k : Int) = sl2[k] by simp [rd_T29, List.getD, hlt5]] at hs7
          simp only [Int.toNat_natCast] at hs7
          obtain ⟨sb, hsb, _, s1⟩ := hs7
          subst hsb
          have hCb := Kd.C_below HC.out.1 hI22.be
          have hlb := HC.out.2.1
          refine wp_flow [[], [0], [1, 0], [2, 1, 0], [2, 1, 0], [2, 1, 0], [4, 2, 1, 0, 5], [6, 4, 2, 1, 0, 5], [7, 6, 4, 2, 1, 0, 5], [3, 2, 1, 0, 8, 7, 6, 4, 5], [2, 1, 0, 9, 3, 8, 7, 6, 4, 5]] 11
            (fun V => V.cell? ⟨W.heap.size, 0, none⟩ = some (.slice A l.length c) ∧ V.cell? ⟨W.heap.size, 1, none⟩ = some (.int .i64 fl) ∧ V.cell? ⟨W.heap.size, 2, none⟩ = some (.int .i64 tg) ∧ V.cell? ⟨(sb.add (k * 2)).block, (sb.add (k * 2)).off + 1, none⟩ = some (.int .i64 sl2[k].f1) ∧ Below w22.heap.size w22 V)
            { tmps := #[.agg #[.slice A l.length c, .int .i64 fl, .int .i64 tg], .agg #[.slice A0 l0.length c0, .int .i64 a1, .int .i64 a2, .int .i64 a3, .int .i64 a4, .int .i64 a5, .int .i64 a6, .int .i64 a7, .int .i64 a8, .slice A9 l9.length c9, .int .i64 a10, .int .i64 a11, .int .i64 a12, .int .i64 a13, .int .i64 a14, .int .i64 a15, .int .i64 a16, .int .i64 a17, .int .i64 a18, .slice A19 l19.length c19, .slice A20 l20.length c20], .pointer (some ⟨W.heap.size, 0, none⟩), .pointer (some ⟨(W.heap.size + 1), 0, none⟩), u4, .slice (some an) nd.length cd, .int .i64 0, .int .i64 k, .slice (some ⟨g, 0, none⟩) nd.length cap, .int .i64 nd.length, .slice (some sb) sl2.length c5, .int .i64 0, .agg #[.slice A l.length c, .int .i64 fl, .int .i64 tg], .bool false, .bool false, .agg #[.slice A0 l0.length c0, .int .i64 a1, .int .i64 a2, .int .i64 a3, .int .i64 a4, .int .i64 a5, .int .i64 a6, .int .i64 a7, .int .i64 a8, .slice A9 l9.length c9, .int .i64 a10, .int .i64 a11, .int .i64 a12, .int .i64 a13, .int .i64 a14, .int .i64 a15, .int .i64 a16, .int .i64 a17, .int .i64 a18, .slice A19 l19.length c19, .slice A20 l20.length c20], .bool false, .bool false, undef, .tuple #[.slice (some an) nd.length cd, .int .i64 0], .agg #[.slice A l.length c, .int .i64 fl, .int .i64 tg], .pointer (some ⟨W.heap.size + 1, 1, none⟩), .agg #[.int .i64 a1, .int .i64 a2, .int .i64 a3, .int .i64 a4], .tuple #[.slice (some an) nd.length cd, .int .i64 0], .slice (some an) nd.length cd, .int .i64 0, .int .i64 0, .bool false, undef, undef, undef, undef, undef, undef, .int .i64 k, .slice (some an) nd.length cd, .int .i64 nd.length, .bool true, u38, u39, .int .i64 nd.length, .slice (some an) nd.length cd, .int .i64 nd.length, .bool false, u44, u45, u46, u47, u48, u49, u50, u51, u52, u53, u54, .tuple #[.slice (some sa) sl1.length c4, .int .i64 0], .agg #[.slice A l.length c, .int .i64 fl, .int .i64 tg], .slice (some ⟨g, 0, none⟩) nd.length cap, .pointer (some ⟨W.heap.size + 1, 1, none⟩), .agg #[.int .i64 a1, .int .i64 a2, .int .i64 a3, .int .i64 a4], .tuple #[.slice (some sa) sl1.length c4, .int .i64 0], .slice (some sa) sl1.length c4, .int .i64 0, .int .i64 0, .bool false, .bool false, .slice (some sa) sl1.length c4, .int .i64 sl1.length, .slice (some an) nd.length cd, .int .i64 nd.length, .bool false, .bool false, .slice (some an) nd.length cd, .int .i64 k, .pointer (some (an.add k)), .int .i64 0, .bool false, .bool false, undef, undef, undef, undef, undef, undef, undef, undef, .bool false, .slice (some an) nd.length cd, .int .i64 k, .pointer (some (an.add k)), .int .i64 0, .bool false, .slice (some ⟨g, 0, none⟩) nd.length cap, .int .i64 k, .slice (some an) nd.length cd, .int .i64 k, .pointer (some (an.add k)), .int .i64 0, .int .i64 (-1), .agg #[.int .i64 (-1), .int .i64 (-1)], .pointer (some ⟨g, k * 2, none⟩), .slice (some an) nd.length cd, .int .i64 k, .pointer (some (an.add k)), .int .i64 0, .bool true, .slice (some ⟨g, 0, none⟩) nd.length cap, .int .i64 k, .agg #[.int .i64 2000, .int .i64 2000], .pointer (some ⟨g, k * 2, none⟩), .tuple #[.slice (some sb) sl2.length c5, .int .i64 0], .agg #[.slice A l.length c, .int .i64 fl, .int .i64 tg], .slice (some ⟨g, 0, none⟩) nd.length cap, .pointer (some ⟨W.heap.size + 1, 1, none⟩), .agg #[.int .i64 a1, .int .i64 a2, .int .i64 a3, .int .i64 a4], .tuple #[.slice (some sb) sl2.length c5, .int .i64 0], .slice (some sb) sl2.length c5, .int .i64 0, .int .i64 0, .bool false, .bool false, .agg #[.slice A l.length c, .int .i64 fl, .int .i64 tg], .slice (some sb) sl2.length c5, .int .i64 k, .pointer (some (sb.add (k * 2))), .pointer (some ⟨(sb.add (k * 2)).block, (sb.add (k * 2)).off + 1, none⟩), .int .i64 (sl2[k].f1), .bool false, .bool false, undef], defers := [] }
            mixed (by kernel_rfl) rfl (Ahead.of3 118 129 rfl rfl (by kernel_rfl) rfl rfl) ?_ (AllFlow.ops rfl ?_) rfl ?_
          · exact ⟨blkCell hI22.hb 0, blkCell hI22.hb 1, blkCell hI22.hb 2, s1, (Below.refl _ _).drew⟩
          · refine ⟨?_, ?_, ?_, ?_, ?_, ?_, ?_, ?_, ?_, ?_, ?_, trivial⟩
            · exact .val 118 _ rfl rfl fun V ⟨y0, y1, y2, x0, hB_⟩ => by go_simp <;> exact IntWalk.i64_left _
            · exact .val 119 _ rfl rfl fun V ⟨y0, y1, y2, x0, hB_⟩ => by go_simp <;> exact IntWalk.i64_left _
            · exact .val 120 _ rfl rfl fun V ⟨y0, y1, y2, x0, hB_⟩ => by go_simp <;> exact IntWalk.i64_left _
            · exact .val 121 _ rfl rfl fun V ⟨y0, y1, y2, x0, hB_⟩ => by go_simp <;> exact IntWalk.i64_left _
            · exact .val 122 _ rfl rfl fun V ⟨y0, y1, y2, x0, hB_⟩ => by go_simp <;> exact IntWalk.i64_left _
            · exact .val 123 _ rfl rfl fun V ⟨y0, y1, y2, x0, hB_⟩ => by go_simp <;> exact IntWalk.i64_left _
            · exact .val 124 _ rfl rfl fun V ⟨y0, y1, y2, x0, hB_⟩ => by go_simp <;> exact IntWalk.i64_left _
            · exact .val 125 _ rfl rfl fun V ⟨y0, y1, y2, x0, hB_⟩ => by go_simp <;> exact IntWalk.i64_left _
            · exact .val 126 _ rfl rfl fun V ⟨y0, y1, y2, x0, hB_⟩ => by go_simp <;> exact IntWalk.i64_left _
            · refine .call 127 (.bool false) 34 #[.agg #[.slice A l.length c, .int .i64 fl, .int .i64 tg], .int .i64 (sl2[k].f1)] rfl rfl (fun V ⟨y0, y1, y2, x0, hB_⟩ => by go_simp) fun V ⟨y0, y1, y2, x0, hB_⟩ => ?_
              refine (bears_no A c l fl tg sl2[k].f1 _ (Kd.C_below hCb hB_) hlb HC8.out.1 HC8.out.2.1 HC8.out.2.2 HS22.out.2.2 (by have := HS22.out.2.1; omega)).mono ?_
              rintro e w' ⟨rfl, hb⟩
              exact ⟨rfl, cell_grow y0 hb, cell_grow y1 hb, cell_grow y2 hb, cell_growp x0 hb, hB_.trans (hb.mono hB_.size)⟩
            · exact .val 128 _ rfl rfl fun V ⟨y0, y1, y2, x0, hB_⟩ => by go_simp <;> exact IntWalk.i64_left _
          · rintro W24 ⟨y0, y1, y2, x0, hB_⟩
            have HB24 := hid (HB22.out.trans (hB_.mono HB22.out.size))
            have rk : wrap64 ((k : Int) + 1) = ((k + 1 : Nat) : Int) := by rw [wrap64_id (by omega) (by have := HL.out.2.1; have := HND.out.2; omega)]; simp
            clear y0 y1 y2 x0 hB_ s1 hI22 hCb hlb
            go_wp2
            simp only [rk]
            clear rk
            go_roundw
            case rel => exact ⟨k + 1, by omega, rfl, HB24⟩
            case measure => simp [intOf]; omega
  · have hd : decide ((k : Int) < (nd.length : Int)) = false := decide_eq_false (by omega)
    have HB9 := hid (HI4.out.be.trans (HX.out.mono HI4.out.be.size))
    go_wp2_with (first | (go_at_call 14; refine (lives_any _).mono ?_; rintro e w9 ⟨rfl, hb⟩))
    refine bodyPost_ret (v := .bool true) (by simp [results, Try.results6, go_sem]) rfl ⟨rfl, HB9.out.trans (hb.mono (HB9.out).size)⟩
end Go.Proofs.Ythoofldinnfpiaa
